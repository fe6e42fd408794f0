/- Lemmas of TyI. -/
import Derived.Test.YtoednonijmkbjaaQTyH
set_option linter.unusedSimpArgs false
set_option linter.unusedVariables false
namespace Go.Proofs.Ytoednonijmkbjaa
open Go.RowKit

theorem prod_le_q {a b m : Int} (ha : 0 ≤ a ∧ a < m) (hb : 0 ≤ b ∧ b < m) (hm : m ≤ 1000000) : 0 ≤ a * b ∧ a * b ≤ 1000000000000 := by
  refine ⟨Int.mul_nonneg ha.1 hb.1, ?_⟩
  have : a * b ≤ 1000000 * 1000000 := Int.mul_le_mul (by omega) (by omega) hb.1 (by omega)
  omega
theorem num_accs (m S a b c : Int) (e f : Nat) : (S % m + a ^ e % m * (b % m) % m * (c ^ f % m)) % m = (S + a ^ e * b * c ^ f) % m := by
  refine emod_congr_add (mod_self_mod _ _) ?_
  refine emod_congr_mul ?_ (mod_self_mod _ _)
  rw [mod_self_mod]
  exact emod_congr_mul (mod_self_mod _ _) (mod_self_mod _ _)

set_option maxHeartbeats 4000000 in
set_option maxRecDepth 100000 in
theorem l09Numerators_c (p : Nat) (m : Int) (v : Value) (ls : List Int) (w : World) (hv : RdI w v ls) (hp : P4 p) (hl : ls.length ≤ 3) (hm : 2 ≤ m) (hm' : m ≤ 1000000) (hx : ∀ x ∈ ls, 0 ≤ x ∧ x ≤ 10000) :
    Calls Try.prog 46 #[.int .i64 p, .int .i64 m, v] w fun e w' => ∃ v', e = .returned v' ∧ OwI w' w.heap.size v' (mk (ls.length + 1) (fun k => num p (at0 ls) k % m)) ∧ Below w.heap.size w w' := by
  obtain ⟨o, c, rfl, hmx, -⟩ := id hv
  clear hmx
  have hp2 := hp.pos
  have m0 : (m == 0) = false := by simp; omega
  have m1 : ¬ m = 0 := by omega
  have t1 : (1 : Int).tmod m = 1 := by rw [Int.tmod_eq_emod_of_nonneg (by omega)]; exact Int.emod_eq_of_lt (by omega) (by omega)
  go_enter Try.func46, Try.ntmps46
  go_wp2_with fail
  have O1 := OwI.lit w [1] (by decide)
  have B1 : Below w.heap.size w (w.alloc (.cells #[.int .i64 1] 2)) := (by (repeat (first | exact Below.refl _ _ | (refine Below.setCell ?_ (by first | (simp; done) | (simp; omega) | omega) _) | (refine Below.alloc ?_ (by first | (simp; done) | (simp; omega) | omega) _) | (refine below_drewN ?_ _) | (refine Below.drew ?_))))
  simp at O1
  have HM1 : mk 1 (fun k => num p (at0 ls) k % m) = [1] := by
    show [num p (at0 ls) 0 % m] = _
    rw [num_0, Int.emod_eq_of_lt (by omega) (by omega)]
  rw [← HM1] at O1
  clear HM1
  generalize w.alloc (.cells #[.int .i64 1] 2) = w1 at O1 B1 ⊢
  go_loopw [7, 8, 9, 10, 11, 12] (fun so sk _ _ _ _ wr => ∃ k : Nat, 1 ≤ k ∧ k ≤ ls.length + 1 ∧ sk = .int .i64 k ∧ OwI wr w.heap.size so (mk k (fun k => num p (at0 ls) k % m)) ∧ Below w.heap.size w wr) (fun _ i _ _ _ _ _ => ls.length + 1 - (intOf i).toNat)
  case atStart => exact ⟨1, Nat.le_refl _, by omega, rfl, O1, B1⟩
  case round =>
    clear O1 B1
    obtain ⟨k, hk1, hk, rfl, hO, hB⟩ := hrel
    obtain ⟨ov, cv, rfl⟩ := hO.shapeN (n := k) (mk_len _ _)
    have hBs := hB.size
    by_cases hlt : k ≤ ls.length
    · have i1 : (k : Int) ≤ (ls.length : Int) := by omega
      obtain ⟨bx, fx, rfl, -⟩ := hv.cells (by omega)
      obtain ⟨gv, rfl, -, -⟩ := hO.row (by omega)
      have hvr := hv.below hB (Nat.le_refl _)
      have HS := Lib.hid (show mk (k + 1) (fun k => num p (at0 ls) k % m) = mk k (fun k => num p (at0 ls) k % m) ++ [num p (at0 ls) k % m] from mk_snoc _ _)
      have HN := Lib.hid (show num p (at0 ls) k = sumN k (numT' p (at0 ls) (k - 1)) by
        obtain ⟨j, rfl⟩ : ∃ j, k = j + 1 := ⟨k - 1, by omega⟩
        exact num_sum p _ j)
      go_wp2_with fail
      go_loopw [9, 10, 11, 12] (fun st sp si _ wz => ∃ (i d : Nat), i ≤ k ∧ si = .int .i64 i ∧ sp = .int .i64 ((p ^ i : Nat) : Int) ∧ st = .int .i64 (sumN i (numT' p (at0 ls) (k - 1)) % m) ∧ wz = wr.drewN d) (fun _ _ i _ _ => k - (intOf i).toNat)
      case atStart => exact ⟨0, 0, Nat.zero_le _, rfl, rfl, by show Value.int _ 0 = Value.int _ (0 % m); rw [Int.zero_emod], rfl⟩
      case round =>
        obtain ⟨i, d, hi, rfl, rfl, rfl, rfl⟩ := hrel
        by_cases hik : i < k
        · have j0 : (0 : Int) ≤ (i : Int) := by omega
          have j1 : (i : Int) < (k : Int) := by omega
          have e1 : IntKind.i64.wrap ((k : Int) - (i : Int)) = (k : Int) - (i : Int) := IntWalk.i64_in _ (by omega)
          have e2 : IntKind.i64.wrap ((k : Int) - (i : Int) - 1) = ((k - 1 - i : Nat) : Int) := by rw [IntWalk.i64_in _ (by omega)]; omega
          have e3 : IntKind.i64.wrap ((k : Int) - 1) = ((k - 1 : Nat) : Int) := by rw [IntWalk.i64_in _ (by omega)]; omega
          have e4 : IntKind.i64.wrap (((k - 1 : Nat) : Int) - (i : Int)) = ((k - 1 - i : Nat) : Int) := by rw [IntWalk.i64_in _ (by omega)]; omega
          have c1 := hO.cell (k := i) (some_at0 (by rw [mk_len]; omega))
          rw [mk_at hik] at c1
          have c2 := hvr.cell0 (some_at0 (show k - 1 - i < ls.length by omega))
          have rv := at0_range0 hx (k - 1 - i)
          have HA := Lib.hid (show (sumN i (numT' p (at0 ls) (k - 1)) % m + (p : Int) ^ (k - 1 - i) % m * (num p (at0 ls) i % m) % m * (at0 ls (k - 1 - i) ^ (p ^ i) % m)) % m = sumN (i + 1) (numT' p (at0 ls) (k - 1)) % m from num_accs _ _ _ _ _ _ _)
          have rS := mod_lt' (a := sumN i (numT' p (at0 ls) (k - 1))) (show 0 < m by omega)
          generalize sumN i (numT' p (at0 ls) (k - 1)) % m = S at HA rS ⊢
          have rN := mod_lt' (a := num p (at0 ls) i) (show 0 < m by omega)
          generalize num p (at0 ls) i % m = N at c1 HA rN
          generalize at0 ls (k - 1 - i) = x at c2 HA rv
          have hz9 : k - 1 - i ≤ 3 := by omega
          have hzl : ((k - 1 - i : Nat) : Int) < (ls.length : Int) := by omega
          have hi3 : i ≤ 2 := by omega
          have hpi : p ^ i ≤ 49 := by
            rcases hp with rfl | rfl | rfl | rfl <;> (obtain rfl | rfl | rfl : i = 0 ∨ i = 1 ∨ i = 2 := by omega) <;> decide
          have e6 : ((p ^ i : Nat) : Int) * (p : Int) = ((p ^ (i + 1) : Nat) : Int) := by rw [Nat.pow_succ]; simp
          have hpj : p ^ (i + 1) ≤ 49 * 7 := by rw [Nat.pow_succ]; exact Nat.mul_le_mul hpi hp2.2
          have e5 : IntKind.i64.wrap (((p ^ i : Nat) : Int) * (p : Int)) = ((p ^ (i + 1) : Nat) : Int) := by rw [e6]; exact IntWalk.i64_in _ (by omega)
          clear e6
          generalize hQ : p ^ (i + 1) = Q at e5 hpj
          have HP := Lib.hid hQ
          clear hQ
          generalize k - 1 - i = z at e2 e4 c2 HA hz9 hzl
          generalize p ^ i = q at hpi e5 HA ⊢
          have r1 := mod_lt' (a := x ^ q) (show 0 < m by omega)
          have r3 := mod_lt' (a := (p : Int) ^ z) (show 0 < m by omega)
          have r4 := prod_fits (m := m) r3.1 rN.1 r3.2 rN.2 (by omega)
          have r5 := mod_lt' (a := (p : Int) ^ z % m * N) (show 0 < m by omega)
          have r6 := prod_le_q (a := (p : Int) ^ z % m * N % m) (b := x ^ q % m) r5 r1 hm'
          have r7 := mod_lt' (a := S + (p : Int) ^ z % m * N % m * (x ^ q % m)) (show 0 < m by omega)
          have e7 : IntKind.i64.wrap ((p : Int) ^ z % m * N) = (p : Int) ^ z % m * N := IntWalk.i64_in _ (by omega)
          have e8 : IntKind.i64.wrap ((p : Int) ^ z % m * N % m * (x ^ q % m)) = (p : Int) ^ z % m * N % m * (x ^ q % m) := IntWalk.i64_in _ (by omega)
          have e9 : IntKind.i64.wrap (S + (p : Int) ^ z % m * N % m * (x ^ q % m)) = S + (p : Int) ^ z % m * N % m * (x ^ q % m) := IntWalk.i64_in _ (by omega)
          have t3 : ((p : Int) ^ z % m * N).tmod m = (p : Int) ^ z % m * N % m := Int.tmod_eq_emod_of_nonneg (by omega)
          have t4 : (S + (p : Int) ^ z % m * N % m * (x ^ q % m)).tmod m = (S + (p : Int) ^ z % m * N % m * (x ^ q % m)) % m := Int.tmod_eq_emod_of_nonneg (by omega)
          go_wp2_with fail
          go_quiet ((go_at_call 77; (first | exact quietA (rfl) (l01Pow_c m p z z _ rfl (by omega) (by omega) (by omega) (by omega) (by omega)) | exact quietB (rfl) (l01Pow_c m p z z _ rfl (by omega) (by omega) (by omega) (by omega) (by omega)) | exact quietC (rfl) (l01Pow_c m p z z _ rfl (by omega) (by omega) (by omega) (by omega) (by omega)) | exact quietD (rfl) (l01Pow_c m p z z _ rfl (by omega) (by omega) (by omega) (by omega) (by omega)))))
          go_wp2_with fail
          refine (l01Pow_c m x q q _ rfl (by omega) (by omega) (by omega) (by omega) (by omega)).mono ?_
          rintro e w2 ⟨rfl, rfl⟩
          go_wp2_with fail
          rw [HA.out]
          exact ⟨⟨i + 1, _, by omega, by go_num, by rw [HP.out], rfl, by first | rfl | (simp [World.drewN_drewN]; done)⟩, by simp [intOf]; omega⟩
        · obtain rfl : i = k := by omega
          rw [← HN.out]
          have hO5 := hO.below (w' := wr.drewN d) (by (repeat (first | exact Below.refl _ _ | (refine Below.setCell ?_ (by first | (simp; done) | (simp; omega) | omega) _) | (refine Below.alloc ?_ (by first | (simp; done) | (simp; omega) | omega) _) | (refine below_drewN ?_ _) | (refine Below.drew ?_)))) 
          have hB5 : Below w.heap.size w (wr.drewN d) := (by (repeat (first | exact Below.refl _ _ | (refine Below.setCell ?_ (by first | (simp; done) | (simp; omega) | omega) _) | (refine Below.alloc ?_ (by first | (simp; done) | (simp; omega) | omega) _) | (refine below_drewN ?_ _) | (refine Below.drew ?_) | (refine Below.trans ?_ (Below.mono hB (by first | (simp; done) | (simp; omega) | omega))))))
          generalize wr.drewN d = wq at hO5 hB5 ⊢
          go_wp2_with (at_builtin; refine apI wq rfl _ _ rfl w.heap.size (.slice (some ⟨gv, 0, none⟩) i cv) _ rfl hO5 _ rfl (by rw [mk_len]; omega) (by have := hB5.size; omega) ?_; intro v' w4 hO3 hgr hb3 hlt3; clear hgr)
          rw [← HS.out] at hO3
          exact ⟨⟨i + 1, by omega, by omega, by go_num, hO3, hB5.trans hb3⟩, by simp [intOf]; omega⟩
    · obtain rfl : k = ls.length + 1 := by omega
      go_wp2
      go_ret
      exact ⟨_, rfl, hO, hB⟩
end Go.Proofs.Ytoednonijmkbjaa
