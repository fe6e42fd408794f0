/- Lemmas of WittD. -/
import Derived.Test.YtcjinlfgeljmkaaWMWittC
import Derived.Test.YtcjinlfgeljmkaaWMGhost
set_option linter.unusedSimpArgs false
set_option linter.unusedVariables false
namespace Go.Proofs.Ytcjinlfgeljmkaa
open Go.RowKit

structure IR where
  val : Int
  code : Int
structure LR where
  xs : List Int
  code : Int
theorem Box3.belowB {B : Nat} {w w' : World} {b : Nat} {x y z : Value} (h : Box3 w b x y z) (hb : Below B w w') (hB : b < B) : Box3 w' b x y z :=
  ⟨(hb.cell (p := ⟨b, 0, none⟩) hB).trans h.1, (hb.cell (p := ⟨b, 1, none⟩) hB).trans h.2.1, (hb.cell (p := ⟨b, 2, none⟩) hB).trans h.2.2⟩
theorem RB3.belowB {B : Nat} {w w' : World} {b : Nat} {x y z : Value} (h : RB3 w b x y z) (hb : Below B w w') (hB : b < B) : RB3 w' b x y z :=
  ⟨h.1.belowB hb hB, fun k => (hb.frozen (p := ⟨b, k, none⟩) hB).trans (h.2 k)⟩
theorem below_of_drewN {w w' : World} {d : Nat} (h : w' = w.drewN d) : Below w.heap.size w w' := by rw [h]; exact below_drewN (Below.refl _ _) _

def ghL (p : Nat) (m : Int) (xs : List Int) (k : Nat) : List Int := (List.range k).map (fun j => gh p (at0 xs) j % m)
theorem ghL_len (p : Nat) (m : Int) (xs : List Int) (k : Nat) : (ghL p m xs k).length = k := by simp [ghL]
theorem ghL_succ (p : Nat) (m : Int) (xs : List Int) (k : Nat) : ghL p m xs (k + 1) = ghL p m xs k ++ [gh p (at0 xs) k % m] := by simp [ghL, List.range_succ]

set_option maxHeartbeats 1000000 in
set_option maxRecDepth 100000 in
theorem ghosts_c (p : Nat) (m m' : Int) (v : Value) (xs : List Int) (w : World) (hp : P4 p) (hv : RdI w v xs) (h4 : xs.length ≤ 4) (hm1 : 1 ≤ m) (hm2 : m ≤ 3000000000) (hx : ∀ x ∈ xs, 0 ≤ x ∧ x ≤ 9000000000000000000) :
    Calls Try.prog 184 #[.agg #[.int .i64 p, .int .i64 m', v], .int .i64 m] w fun e w' => ∃ v', e = .returned v' ∧ OwI w' w.heap.size v' (ghL p m xs xs.length) ∧ Below w.heap.size w w' := by
  have X0 := Box3.mk' w (.int .i64 p) (.int .i64 m') v 59
  have B0 : Below w.heap.size w (w.alloc (.cells #[.int .i64 p, .int .i64 m', v] 59)) := (by (repeat (first | exact Below.refl _ _ | (refine Below.setCell ?_ (by first | (simp; done) | (simp; omega) | omega) _) | (refine Below.alloc ?_ (by first | (simp; done) | (simp; omega) | omega) _) | (refine below_drewN ?_ _) | (refine Below.drew ?_))))
  have O1 := OwI.lit (w.alloc (.cells #[.int .i64 p, .int .i64 m', v] 59)) [] (by decide)
  simp at O1
  obtain ⟨o, c, rfl, hm, -⟩ := id hv
  go_enter Try.func184, Try.ntmps184
  go_wp2
  have B1 : Below w.heap.size w ((w.alloc (.cells #[.int .i64 p, .int .i64 m', .slice o xs.length c] 59)).alloc (.cells #[] 2)) := (by (repeat (first | exact Below.refl _ _ | (refine Below.setCell ?_ (by first | (simp; done) | (simp; omega) | omega) _) | (refine Below.alloc ?_ (by first | (simp; done) | (simp; omega) | omega) _) | (refine below_drewN ?_ _) | (refine Below.drew ?_))))
  have X1 := X0.below (w' := ((w.alloc (.cells #[.int .i64 p, .int .i64 m', .slice o xs.length c] 59)).alloc (.cells #[] 2))) ((by (repeat (first | exact Below.refl _ _ | (refine Below.setCell ?_ (by first | (simp; done) | (simp; omega) | omega) _) | (refine Below.alloc ?_ (by first | (simp; done) | (simp; omega) | omega) _) | (refine below_drewN ?_ _) | (refine Below.drew ?_))))) (Nat.le_refl _)
  generalize (w.alloc (.cells #[.int .i64 p, .int .i64 m', .slice o xs.length c] 59)).alloc (.cells #[] 2) = w1 at B1 X1 O1 ⊢
  clear X0 B0
  go_loopw [5, 6, 11] (fun s _ i wr => ∃ k : Nat, k ≤ xs.length ∧ i = .int .i64 k ∧ OwI wr (w.heap.size + 1) s (ghL p m xs k) ∧ Box3 wr w.heap.size (.int .i64 p) (.int .i64 m') (.slice o xs.length c) ∧ Below w.heap.size w wr) (fun _ _ i _ => xs.length - (intOf i).toNat)
  case atStart => exact ⟨0, Nat.zero_le _, rfl, O1, X1, B1⟩
  case round =>
    obtain ⟨k, hk, rfl, hO, hX, hB⟩ := hrel
    obtain ⟨ov, cv, rfl⟩ := hO.shape
    by_cases hlt : k < xs.length
    · have hvr := hv.below hB (Nat.le_refl _)
      obtain ⟨k0, k1, k2⟩ := id hX
      have hz := hX.lt
      go_wp2_with fail
      refine (ghost_c p m _ xs _ k _ hp hvr hm1 hm2 rfl hlt (by omega) hx).mono ?_
      rintro e w2 ⟨rfl, d, hw⟩
      have hb2 := below_of_drewN hw
      clear hw
      have hO2 := hO.below hb2
      have hX2 := hX.below hb2 (Nat.le_refl _)
      have hB2 := hB.trans (hb2.mono hB.size)
      have hz2 := hX2.lt
      clear k0 k1 k2 hz
      obtain ⟨k0, k1, k2⟩ := id hX2
      go_wp2_with (at_builtin; refine apI w2 rfl _ _ rfl (w.heap.size + 1) (.slice ov (ghL p m xs k).length cv) _ rfl hO2 _ rfl (by rw [ghL_len]; omega) (by omega) ?_; intro v' w3 hO3 hgr hb3 hlt3; clear hgr)
      rw [← ghL_succ] at hO3
      exact ⟨⟨k + 1, by omega, by go_num, hO3, hX2.belowB hb3 (by omega), hB2.trans (hb3.mono (by omega))⟩, by simp [intOf]; omega⟩
    · obtain rfl : k = xs.length := by omega
      go_wp2
      go_ret
      exact ⟨_, rfl, hO.mono (by omega), hB⟩

def ghostsR (p m : Int) (xs : List Int) : LR := if wittB p m xs then ⟨ghL p.toNat m xs xs.length, 0⟩ else ⟨[], 1⟩

end Go.Proofs.Ytcjinlfgeljmkaa
