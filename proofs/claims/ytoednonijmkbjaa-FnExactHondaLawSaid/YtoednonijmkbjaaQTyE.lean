/- Lemmas of TyE. -/
import Derived.Test.YtoednonijmkbjaaQG6
import Derived.Test.YtoednonijmkbjaaQG7
set_option linter.unusedSimpArgs false
set_option linter.unusedVariables false
namespace Go.Proofs.Ytoednonijmkbjaa
open Go.RowKit

theorem num_acc (m S a b c : Int) (e f : Nat) : (S % m + (a % m) ^ e % m * (b % m * ((c % m) ^ f % m) % m) % m) % m = (S + a ^ e * b * c ^ f) % m := by
  refine emod_congr_add (mod_self_mod _ _) ?_
  rw [mod_self_mod, Int.mul_assoc]
  refine emod_congr_mul ?_ ?_
  · rw [mod_self_mod]; exact pow_mod a m e
  · rw [mod_self_mod]
    refine emod_congr_mul (mod_self_mod _ _) ?_
    rw [mod_self_mod]; exact pow_mod c m f
theorem num_acc' (m S a b c : Int) (e f : Nat) : (S % m + (a % m) ^ e % m * (b % m * ((c % m) ^ f % m) % m)) % m = (S + a ^ e * b * c ^ f) % m :=
  (emod_congr_add rfl (mod_self_mod _ _)).symm.trans (num_acc m S a b c e f)
theorem at0_range0 {ls : List Int} (hx : ∀ x ∈ ls, 0 ≤ x ∧ x ≤ 10000) (k : Nat) : 0 ≤ at0 ls k ∧ at0 ls k ≤ 10000 := by
  by_cases h : k < ls.length
  · rw [at0_get h]; exact hx _ (List.getElem_mem _)
  · rw [show at0 ls k = 0 by simp [at0, List.getD, List.getElem?_eq_none (Nat.le_of_not_lt h)]]; omega
def numT' (p : Nat) (v : Nat → Int) (k i : Nat) : Int := (p : Int) ^ (k - i) * num p v i * v (k - i) ^ (p ^ i)
theorem num_sum (p : Nat) (v : Nat → Int) (k : Nat) : num p v (k + 1) = sumN (k + 1) (numT' p v k) := num_succ p v k

set_option maxHeartbeats 4000000 in
set_option maxRecDepth 100000 in
theorem numerators_c (p : Nat) (m : Int) (v : Value) (ls : List Int) (w : World) (hv : RdI w v ls) (hp : P4 p) (hl : ls.length ≤ 3) (hm : 2 ≤ m) (hm' : m < 1099511627776) (hx : ∀ x ∈ ls, 0 ≤ x ∧ x ≤ 10000) :
    Calls Try.prog 53 #[.int .i64 p, .int .i64 m, v] w fun e w' => ∃ v', e = .returned v' ∧ OwI w' w.heap.size v' (mk (ls.length + 1) (fun k => num p (at0 ls) k % m)) ∧ Below w.heap.size w w' := by
  obtain ⟨o, c, rfl, hmx, -⟩ := id hv
  clear hmx
  have hp2 := hp.pos
  have m0 : (m == 0) = false := by simp; omega
  have m1 : ¬ m = 0 := by omega
  have t1 : (1 : Int).tmod m = 1 := by rw [Int.tmod_eq_emod_of_nonneg (by omega)]; exact Int.emod_eq_of_lt (by omega) (by omega)
  have tp : (p : Int).tmod m = (p : Int) % m := Int.tmod_eq_emod_of_nonneg (by omega)
  have hpm := mod_lt' (a := (p : Int)) (show 0 < m by omega)
  go_enter Try.func53, Try.ntmps53
  go_wp2_with fail
  have O1 := OwI.lit w [1] (by decide)
  have B1 : Below w.heap.size w (w.alloc (.cells #[.int .i64 1] 2)) := (by (repeat (first | exact Below.refl _ _ | (refine Below.setCell ?_ (by first | (simp; done) | (simp; omega) | omega) _) | (refine Below.alloc ?_ (by first | (simp; done) | (simp; omega) | omega) _) | (refine below_drewN ?_ _) | (refine Below.drew ?_))))
  simp at O1
  have HM1 : mk 1 (fun k => num p (at0 ls) k % m) = [1] := by
    show [num p (at0 ls) 0 % m] = _
    rw [num_0, Int.emod_eq_of_lt (by omega) (by omega)]
  rw [← HM1] at O1
  clear HM1
  generalize w.alloc (.cells #[.int .i64 1] 2) = w1 at O1 B1 ⊢
  go_loopw [7, 8, 9, 10, 11] (fun so sk _ _ _ wr => ∃ k : Nat, 1 ≤ k ∧ k ≤ ls.length + 1 ∧ sk = .int .i64 k ∧ OwI wr w.heap.size so (mk k (fun k => num p (at0 ls) k % m)) ∧ Below w.heap.size w wr) (fun _ i _ _ _ _ => ls.length + 1 - (intOf i).toNat)
  case atStart => exact ⟨1, Nat.le_refl _, by omega, rfl, O1, B1⟩
  case round =>
    clear O1 B1
    obtain ⟨k, hk1, hk, rfl, hO, hB⟩ := hrel
    obtain ⟨ov, cv, rfl⟩ := hO.shapeN (n := k) (mk_len _ _)
    have hBs := hB.size
    by_cases hlt : k ≤ ls.length
    · have i1 : (k : Int) ≤ (ls.length : Int) := by omega
      obtain ⟨bx, fx, rfl, -⟩ := hv.cells (by omega)
      obtain ⟨gv, rfl, -, -⟩ := hO.row (by omega)
      have hvr := hv.below hB (Nat.le_refl _)
      have HS := Lib.hid (show mk (k + 1) (fun k => num p (at0 ls) k % m) = mk k (fun k => num p (at0 ls) k % m) ++ [num p (at0 ls) k % m] from mk_snoc _ _)
      have HN := Lib.hid (show num p (at0 ls) k = sumN k (numT' p (at0 ls) (k - 1)) by
        obtain ⟨j, rfl⟩ : ∃ j, k = j + 1 := ⟨k - 1, by omega⟩
        exact num_sum p _ j)
      go_wp2_with fail
      go_loopw [9, 10, 11, 22] (fun st _ _ si wz => ∃ (i d : Nat), i ≤ k ∧ si = .int .i64 i ∧ st = .int .i64 (sumN i (numT' p (at0 ls) (k - 1)) % m) ∧ wz = wr.drewN d) (fun _ _ _ i _ => k - (intOf i).toNat)
      case atStart => exact ⟨0, 0, Nat.zero_le _, rfl, by show Value.int _ 0 = Value.int _ (0 % m); rw [Int.zero_emod], rfl⟩
      case round =>
        obtain ⟨i, d, hi, rfl, rfl, rfl⟩ := hrel
        by_cases hik : i < k
        · have j0 : (0 : Int) ≤ (i : Int) := by omega
          have j1 : (i : Int) < (k : Int) := by omega
          have e1 : IntKind.i64.wrap ((k : Int) - (i : Int)) = (k : Int) - (i : Int) := IntWalk.i64_in _ (by omega)
          have e2 : IntKind.i64.wrap ((k : Int) - (i : Int) - 1) = ((k - 1 - i : Nat) : Int) := by rw [IntWalk.i64_in _ (by omega)]; omega
          have e3 : IntKind.i64.wrap ((k : Int) - 1) = ((k - 1 : Nat) : Int) := by rw [IntWalk.i64_in _ (by omega)]; omega
          have e4 : IntKind.i64.wrap (((k - 1 : Nat) : Int) - (i : Int)) = ((k - 1 - i : Nat) : Int) := by rw [IntWalk.i64_in _ (by omega)]; omega
          have c1 := hO.cell (k := i) (some_at0 (by rw [mk_len]; omega))
          rw [mk_at hik] at c1
          have c2 := hvr.cell0 (some_at0 (show k - 1 - i < ls.length by omega))
          have rv := at0_range0 hx (k - 1 - i)
          have HA := Lib.hid (show (sumN i (numT' p (at0 ls) (k - 1)) % m + ((p : Int) % m) ^ (k - 1 - i) % m * (num p (at0 ls) i % m * ((at0 ls (k - 1 - i) % m) ^ (p ^ i) % m) % m)) % m = sumN (i + 1) (numT' p (at0 ls) (k - 1)) % m from num_acc' _ _ _ _ _ _ _)
          have rS := mod_lt' (a := sumN i (numT' p (at0 ls) (k - 1))) (show 0 < m by omega)
          generalize sumN i (numT' p (at0 ls) (k - 1)) % m = S at HA rS ⊢
          have rN := mod_lt' (a := num p (at0 ls) i) (show 0 < m by omega)
          generalize num p (at0 ls) i % m = N at c1 HA rN
          generalize at0 ls (k - 1 - i) = x at c2 HA rv
          have hz9 : k - 1 - i ≤ 3 := by omega
          have hzl : ((k - 1 - i : Nat) : Int) < (ls.length : Int) := by omega
          have hi3 : i ≤ 2 := by omega
          have hpi : ((p ^ i : Nat) : Int) ≤ 49 := by
            rcases hp with rfl | rfl | rfl | rfl <;> (obtain rfl | rfl | rfl : i = 0 ∨ i = 1 ∨ i = 2 := by omega) <;> decide
          have hpe : (p : Int) ^ i % 1099511627776 = ((p ^ i : Nat) : Int) := by rw [Int.natCast_pow] at hpi ⊢; exact Int.emod_eq_of_lt (Int.pow_nonneg (by omega)) (by omega)
          generalize k - 1 - i = z at e2 e4 c2 HA hz9 hzl
          have rx := mod_lt' (a := x) (show 0 < m by omega)
          have r1 := mod_lt' (a := (x % m) ^ (p ^ i)) (show 0 < m by omega)
          have r2 := mod_lt' (a := N * ((x % m) ^ (p ^ i) % m)) (show 0 < m by omega)
          have r3 := mod_lt' (a := ((p : Int) % m) ^ z) (show 0 < m by omega)
          have r4 := mod_lt' (a := ((p : Int) % m) ^ z % m * (N * ((x % m) ^ (p ^ i) % m) % m)) (show 0 < m by omega)
          have t3 : x.tmod m = x % m := Int.tmod_eq_emod_of_nonneg (by omega)
          have pn : p ^ i ≤ 1000000000000 := by omega
          go_wp2_with fail
          go_quiet (first
            | (go_at_call_of 57 (Value.int .i64 1099511627776); (first | exact quietA (by rw [hpe]) (powerA_c 1099511627776 p i i _ rfl (by omega) (by omega) (by omega) (by omega) (by omega) (.inr ⟨by omega, hi3⟩)) | exact quietB (by rw [hpe]) (powerA_c 1099511627776 p i i _ rfl (by omega) (by omega) (by omega) (by omega) (by omega) (.inr ⟨by omega, hi3⟩)) | exact quietC (by rw [hpe]) (powerA_c 1099511627776 p i i _ rfl (by omega) (by omega) (by omega) (by omega) (by omega) (.inr ⟨by omega, hi3⟩)) | exact quietD (by rw [hpe]) (powerA_c 1099511627776 p i i _ rfl (by omega) (by omega) (by omega) (by omega) (by omega) (.inr ⟨by omega, hi3⟩))))
            | (go_at_call 57; (first | exact quietA (rfl) (powerA_c m (x % m) _ (p ^ i) _ rfl (by omega) (by omega) (by omega) (by omega) pn (.inl hm')) | exact quietB (rfl) (powerA_c m (x % m) _ (p ^ i) _ rfl (by omega) (by omega) (by omega) (by omega) pn (.inl hm')) | exact quietC (rfl) (powerA_c m (x % m) _ (p ^ i) _ rfl (by omega) (by omega) (by omega) (by omega) pn (.inl hm')) | exact quietD (rfl) (powerA_c m (x % m) _ (p ^ i) _ rfl (by omega) (by omega) (by omega) (by omega) pn (.inl hm'))))
            | (go_at_call 56; (first | exact quietA (rfl) (mulA_c m N ((x % m) ^ (p ^ i) % m) _ (by omega) hm' (by omega) (by omega) (by omega) (by omega)) | exact quietB (rfl) (mulA_c m N ((x % m) ^ (p ^ i) % m) _ (by omega) hm' (by omega) (by omega) (by omega) (by omega)) | exact quietC (rfl) (mulA_c m N ((x % m) ^ (p ^ i) % m) _ (by omega) hm' (by omega) (by omega) (by omega) (by omega)) | exact quietD (rfl) (mulA_c m N ((x % m) ^ (p ^ i) % m) _ (by omega) hm' (by omega) (by omega) (by omega) (by omega)))))
          go_wp2_with fail
          refine (powerA_c m ((p : Int) % m) z z _ rfl (by omega) (by omega) hpm.1 hpm.2 (by omega) (.inl hm')).mono ?_
          rintro e w2 ⟨rfl, d2, rfl⟩
          have e5 : IntKind.i64.wrap (S + ((p : Int) % m) ^ z % m * (N * ((x % m) ^ (p ^ i) % m) % m) % m) = S + ((p : Int) % m) ^ z % m * (N * ((x % m) ^ (p ^ i) % m) % m) % m := IntWalk.i64_in _ (by omega)
          have t4 : (S + ((p : Int) % m) ^ z % m * (N * ((x % m) ^ (p ^ i) % m) % m) % m).tmod m = (S + ((p : Int) % m) ^ z % m * (N * ((x % m) ^ (p ^ i) % m) % m) % m) % m := Int.tmod_eq_emod_of_nonneg (by omega)
          go_wp2_with fail
          refine (mulA_c m (((p : Int) % m) ^ z % m) (N * ((x % m) ^ (p ^ i) % m) % m) _ (by omega) hm' r3.1 r2.1 r3.2 r2.2).mono ?_
          rintro e w3 ⟨rfl, d3, rfl⟩
          go_wp2_with fail
          rw [HA.out]
          exact ⟨⟨i + 1, _, by omega, by go_num, rfl, by first | rfl | (simp [World.drewN_drewN]; done)⟩, by simp [intOf]; omega⟩
        · obtain rfl : i = k := by omega
          rw [← HN.out]
          have hO5 := hO.below (w' := wr.drewN d) (by (repeat (first | exact Below.refl _ _ | (refine Below.setCell ?_ (by first | (simp; done) | (simp; omega) | omega) _) | (refine Below.alloc ?_ (by first | (simp; done) | (simp; omega) | omega) _) | (refine below_drewN ?_ _) | (refine Below.drew ?_)))) 
          have hB5 : Below w.heap.size w (wr.drewN d) := (by (repeat (first | exact Below.refl _ _ | (refine Below.setCell ?_ (by first | (simp; done) | (simp; omega) | omega) _) | (refine Below.alloc ?_ (by first | (simp; done) | (simp; omega) | omega) _) | (refine below_drewN ?_ _) | (refine Below.drew ?_) | (refine Below.trans ?_ (Below.mono hB (by first | (simp; done) | (simp; omega) | omega))))))
          generalize wr.drewN d = wq at hO5 hB5 ⊢
          go_wp2_with (at_builtin; refine apI wq rfl _ _ rfl w.heap.size (.slice (some ⟨gv, 0, none⟩) i cv) _ rfl hO5 _ rfl (by rw [mk_len]; omega) (by have := hB5.size; omega) ?_; intro v' w4 hO3 hgr hb3 hlt3; clear hgr)
          rw [← HS.out] at hO3
          exact ⟨⟨i + 1, by omega, by omega, by go_num, hO3, hB5.trans hb3⟩, by simp [intOf]; omega⟩
    · obtain rfl : k = ls.length + 1 := by omega
      go_wp2
      go_ret
      exact ⟨_, rfl, hO, hB⟩
end Go.Proofs.Ytoednonijmkbjaa
