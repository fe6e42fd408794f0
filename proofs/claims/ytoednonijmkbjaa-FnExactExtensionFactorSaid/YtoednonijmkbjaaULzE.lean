/- Lemmas of LzE. -/
import Derived.Test.YtoednonijmkbjaaULzD
import Derived.Test.YtoednonijmkbjaaUPlaT
set_option linter.unusedSimpArgs false
set_option linter.unusedVariables false
namespace Go.Proofs.Ytoednonijmkbjaa
open Go.RowKit

theorem int_beq_comm (a b : Int) : (a == b) = (b == a) := by rw [Bool.eq_iff_iff]; simp only [beq_iff_eq]; exact eq_comm

set_option maxHeartbeats 2000000 in
set_option maxRecDepth 100000 in
theorem l07Factor_c (m : Int) (n : Nat) (v : Value) (t : List (List Int)) (w : World) (hv : RdT w v t) (ht : PlaT m (n + 1) t) (h2 : 2 ≤ n) (hn : n ≤ 10) (hm : 2 ≤ m) (hm' : m ≤ 10000) :
    Calls Try.prog 36 #[.int .i64 m, v] w fun e w' => e = .returned (.int .i64 (facTo m (laz n) (fun i => atT t i (n - i)) (n + 1) m.toNat)) ∧ Below w.heap.size w w' := by
  obtain ⟨M, rfl⟩ : ∃ M : Nat, m = M := ⟨m.toNat, by omega⟩
  obtain ⟨o, cv, rfl, hmx, -⟩ := id hv
  have hl := ht.1
  rw [hl] at hmx ⊢
  have hv' : RdT w (.slice o (n + 1) cv) t := by rw [hl] at hv; exact hv
  obtain ⟨bv, fv, rfl, -⟩ := hv'.rows (by omega)
  have HT := Lib.hid ht
  clear hv hl ht
  obtain ⟨D, hD⟩ : ∃ D, D = fun i => atT t i (n - i) := ⟨_, rfl⟩
  have HD := Lib.hid hD
  rw [← hD]
  clear hD
  go_enter Try.func36, Try.ntmps36
  go_wp2_with fail
  refine (l07Cocycle_c M n w h2 hn hm hm').mono ?_
  rintro e w1 ⟨vc, rfl, hO, hb1⟩
  obtain ⟨oc, cc, rfl⟩ := hO.shapeN (n := n + 1) (tri_len _ _)
  obtain ⟨gc, rfl, -, -⟩ := hO.row (by omega)
  have hC := hO.rd
  have hV := hv'.below hb1 (Nat.le_refl _)
  clear hv' hO
  go_wp2_with fail
  go_loopw [7] (fun i wr => ∃ (k : Nat) (d : Nat), k ≤ M ∧ i = .int .i64 k ∧ wr = w1.drewN d ∧ Hid (facTo M (laz n) D (n + 1) k = -1)) (fun i _ => M - (intOf i).toNat)
  case atStart => exact ⟨0, 0, Nat.zero_le _, rfl, rfl, Lib.hid rfl⟩
  case round =>
    obtain ⟨k, dr, hk, rfl, rfl, HK⟩ := hrel
    by_cases hlt : k < M
    · have i0 : (k : Int) < (M : Int) := by omega
      go_wp2_with fail
      go_loopw [8, 9] (fun f i wr => ∃ (q : Nat) (d : Nat), q ≤ n + 1 ∧ i = .int .i64 q ∧ f = .bool (fitTo M (laz n) D k q) ∧ wr = w1.drewN d) (fun _ i _ => n + 1 - (intOf i).toNat)
      case atStart => exact ⟨0, dr, Nat.zero_le _, rfl, rfl, rfl⟩
      case round =>
        obtain ⟨q, dq, hq, rfl, rfl, rfl⟩ := hrel
        by_cases hql : q < n + 1
        · have i1 : (q : Int) ≤ (n : Int) := by omega
          cases hB : fitTo M (laz n) D k q
          · have hF : fitTo M (laz n) D k (n + 1) = false := by
              have := fitTo_f hB (n + 1 - q)
              rwa [show q + (n + 1 - q) = n + 1 by omega] at this
            have HB := Lib.hid (facTo_f HK.out hF)
            go_wp2
            exact ⟨⟨k + 1, _, by omega, by go_num, rfl, HB⟩, by simp [intOf]; omega⟩
          · have i2 : (0 : Int) ≤ (q : Int) := by omega
            have i3 : (q : Int) < ((n + 1 : Nat) : Int) := by omega
            have i4 : (q : Int) < (n : Int) + 1 := by omega
            have i5 : ((n - q : Nat) : Int) < ((n + 1 - q : Nat) : Int) := by omega
            have i6 : (0 : Int) ≤ ((n - q : Nat) : Int) := by omega
            obtain ⟨o1, c1, cx, rx⟩ := hC.row (tri_get (f := fun i j => if i + j = n then laz n i % (M : Int) else 0) hql)
            rw [mk_len, Nat.zero_add] at cx
            rw [mk_len] at rx
            obtain ⟨b1, f1, rfl, -⟩ := rx.cells (by rw [mk_len]; omega)
            have ex := rx.cell0 (mk_get (f := fun j => if q + j = n then laz n q % (M : Int) else 0) (show n - q < n + 1 - q by omega))
            rw [if_pos (by omega)] at ex
            obtain ⟨rT, hrT, hrTl, hrTj⟩ := HT.out.row hql
            obtain ⟨o2, c2, cy, ry⟩ := hV.row hrT
            rw [hrTl] at cy ry
            obtain ⟨b2, f2, rfl, -⟩ := ry.cells (by omega)
            have ey := ry.cell0 (hrTj (n - q) (by omega))
            have rt := tab_range HT.out (show q + (n - q) < n + 1 by omega)
            have hDq : D q = atT t q (n - q) := by rw [HD.out]
            rw [← hDq] at ey rt
            have rl := laz_range h2 hn q
            have rm := mod_lt' (a := laz n q) (show 0 < (M : Int) by omega)
            have m0 : ((M : Int) == 0) = false := by simp; omega
            have m1 : ¬ (M : Int) = 0 := by omega
            have hp : 0 ≤ (k : Int) * (laz n q % (M : Int)) ∧ (k : Int) * (laz n q % (M : Int)) ≤ 10000 * 10000 := ⟨Int.mul_nonneg (by omega) rm.1, Int.mul_le_mul (by omega) (by omega) rm.1 (by omega)⟩
            have e2 : IntKind.i64.wrap ((k : Int) * (laz n q % (M : Int))) = (k : Int) * (laz n q % (M : Int)) := IntWalk.i64_in _ (by omega)
            have e3 : ((k : Int) * (laz n q % (M : Int))).tmod (M : Int) = (k : Int) * (laz n q % (M : Int)) % (M : Int) := Int.tmod_eq_emod_of_nonneg hp.1
            have e5 : IntKind.i64.wrap ((n : Int) - (q : Int)) = ((n - q : Nat) : Int) := by rw [IntWalk.i64_in _ (by omega)]; omega
            have HF : Hid (fitTo M (laz n) D k (q + 1) = ((k : Int) * (laz n q % (M : Int)) % (M : Int) == D q)) := Lib.hid (by
              show (fitTo M (laz n) D k q && (D q % (M : Int) == (k : Int) * (laz n q % (M : Int)) % (M : Int))) = _
              rw [hB, Int.emod_eq_of_lt rt.1 rt.2, int_beq_comm]; rfl)
            clear hrT hrTl hrTj hDq
            generalize D q = x at ey rt HF
            generalize laz n q = y at ex rl rm hp e2 e3 HF
            generalize hY : y % (M : Int) = Y at ex rm hp e2 e3 HF
            clear hY
            go_wp2_with fail
            go_quiet (fail)
            go_wp2
            exact ⟨⟨q + 1, _, by omega, by go_num, by rw [HF.out], (by first | rfl | (simp [World.drewN_drewN]; done))⟩, by simp [intOf]; omega⟩
        · obtain rfl : q = n + 1 := by omega
          have i1 : ¬ ((n + 1 : Nat) : Int) ≤ (n : Int) := by omega
          have i1' : ¬ ((n : Int) + 1) ≤ (n : Int) := by omega
          cases hB : fitTo M (laz n) D k (n + 1)
          · have HB := Lib.hid (facTo_f HK.out hB)
            go_wp2
            exact ⟨⟨k + 1, _, by omega, by go_num, rfl, HB⟩, by simp [intOf]; omega⟩
          · have HB := Lib.hid (facTo_end (M := M) HK.out hB (by omega))
            go_wp2
            go_ret
            exact ⟨by rw [HB.out]; rfl, (by (repeat (first | exact Below.refl _ _ | (refine Below.setCell ?_ (by first | (simp; done) | (simp; omega) | omega) _) | (refine Below.alloc ?_ (by first | (simp; done) | (simp; omega) | omega) _) | (refine below_drewN ?_ _) | (refine Below.drew ?_) | (refine Below.trans ?_ (Below.mono hb1 (by first | (simp; done) | (simp; omega) | omega))))))⟩
    · obtain rfl : k = M := by omega
      have i1 : ¬ (k : Int) < (k : Int) := by omega
      go_wp2
      go_ret
      exact ⟨by rw [HK.out]; rfl, (by (repeat (first | exact Below.refl _ _ | (refine Below.setCell ?_ (by first | (simp; done) | (simp; omega) | omega) _) | (refine Below.alloc ?_ (by first | (simp; done) | (simp; omega) | omega) _) | (refine below_drewN ?_ _) | (refine Below.drew ?_) | (refine Below.trans ?_ (Below.mono hb1 (by first | (simp; done) | (simp; omega) | omega))))))⟩
end Go.Proofs.Ytoednonijmkbjaa
