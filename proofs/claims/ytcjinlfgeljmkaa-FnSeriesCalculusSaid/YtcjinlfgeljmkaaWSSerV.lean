/- Lemmas of SerV. -/
import Derived.Test.YtcjinlfgeljmkaaWSSerU
set_option linter.unusedSimpArgs false
set_option linter.unusedVariables false
namespace Go.Proofs.Ytcjinlfgeljmkaa
open Go.RowKit

def valH (m x : Int) : List Int → Int
  | [] => 0
  | c :: cs => (valH m x cs * x + c) % m
theorem valH_range {m : Int} (hm : 0 < m) (x : Int) (xs : List Int) : 0 ≤ valH m x xs ∧ valH m x xs < m := by
  cases xs with
  | nil => simp [valH]; omega
  | cons c cs => exact mod_lt' hm
theorem valH_drop (m x : Int) {xs : List Int} {k : Nat} (hk : k < xs.length) : valH m x (xs.drop k) = (valH m x (xs.drop (k + 1)) * x + at0 xs k) % m := by
  rw [List.drop_eq_getElem_cons hk]; simp [valH, at0_get hk]
def valR (m : Int) (xs : List Int) (x : Int) : Int × Int := if serB m xs then (if inB x 0 (m - 1) then (valH m x xs, 0) else (0, 2)) else (0, 1)
def VEnd2 (w w' : World) (r : Int × Int) (e : Ending) : Prop := e = .returned (.tuple #[.int .i64 r.1, .int .i64 r.2]) ∧ Below w.heap.size w w'

set_option maxHeartbeats 1000000 in
set_option maxRecDepth 100000 in
theorem valueOf_c (m x : Int) (v : Value) (xs : List Int) (w : World) (hv : RdI w v xs) (hn : xs.length ≤ 1048576) (hm : 2 ≤ m) (hm' : m ≤ 10000) (h0 : 0 ≤ x) (h1 : x < m)
    (hx : ∀ y ∈ xs, 0 ≤ y ∧ y < m) :
    Calls Try.prog 144 #[.int .i64 m, v, .int .i64 x] w fun e w' => e = .returned (.int .i64 (valH m x xs)) ∧ w = w' := by
  obtain ⟨o, c, rfl, hmx, -⟩ := id hv
  have hml := hmx.1
  unfold maxLen at hmx
  have m0 : (m == 0) = false := by simp; omega
  have m1 : ¬ m = 0 := by omega
  go_enter Try.func144, Try.ntmps144
  go_wp2_with fail
  go_loop [7, 8] (fun s i => ∃ j : Nat, j ≤ xs.length ∧ i = .int .i64 ((j : Int) - 1) ∧ s = .int .i64 (valH m x (xs.drop j))) (fun _ i => ((intOf i) + 1).toNat)
  case atStart => exact ⟨xs.length, Nat.le_refl _, rfl, by rw [List.drop_length]; rfl⟩
  case round =>
    obtain ⟨j, hj, rfl, rfl⟩ := hrel
    by_cases hlt : 0 < j
    · obtain ⟨k, rfl⟩ : ∃ k, j = k + 1 := ⟨j - 1, by omega⟩
      have ek : (((k + 1 : Nat) : Int)) - 1 = (k : Int) := by omega
      rw [ek]
      clear ek
      obtain ⟨bx, fx, rfl, -⟩ := hv.cells (by omega)
      have cx := hv.cell0 (some_at0 (xs := xs) (k := k) (by omega))
      have hxk := at0_range (by omega) hx k
      have HS := Lib.hid (valH_drop m x (xs := xs) (k := k) (by omega))
      have hs := valH_range (show 0 < m by omega) x (xs.drop (k + 1))
      generalize valH m x (xs.drop (k + 1)) = s at hs HS ⊢
      have hp := Int.mul_nonneg hs.1 h0
      have hp2 : s * x ≤ 10000 * 10000 := Int.mul_le_mul (by omega) (by omega) h0 (by omega)
      have i0 : (0 : Int) ≤ (k : Int) := by omega
      have i1 : (k : Int) < (xs.length : Int) := by omega
      have e1 : IntKind.i64.wrap (s * x) = s * x := IntWalk.i64_in _ (by omega)
      have e2 : IntKind.i64.wrap (s * x + at0 xs k) = s * x + at0 xs k := IntWalk.i64_in _ (by omega)
      have e3 : (s * x + at0 xs k).tmod m = (s * x + at0 xs k) % m := Int.tmod_eq_emod_of_nonneg (by omega)
      go_wp2_with fail
      exact ⟨⟨k, by omega, by go_num, by rw [HS.out]⟩, by simp [intOf]⟩
    · obtain rfl : j = 0 := by omega
      rw [List.drop_zero]
      go_wp2
      go_ret
      exact ⟨rfl, rfl⟩

set_option maxHeartbeats 1000000 in
set_option maxRecDepth 100000 in
theorem ValueOfSeries_c (m x : Int) (v : Value) (xs : List Int) (w : World) (hv : RdI w v xs) :
    Calls Try.prog 42 #[.agg #[.int .i64 m, v], .int .i64 x] w fun e w' => VEnd2 w w' (valR m xs x) e := by
  obtain ⟨o, c, rfl, hmx, -⟩ := id hv
  clear hmx
  cases h1 : serB m xs
  · have hR : valR m xs x = (0, 1) := by simp [valR, h1]
    rw [hR]
    clear hR
    go_enter Try.func42, Try.ntmps42
    go_wp2_with fail
    (have X0 := ((RB2.mk1 w  (.int .i64 m) (.slice o xs.length c) 26).1).below (w' := (w.alloc (.cells #[.int .i64 m, .slice o xs.length c] 26))) (by (repeat (first | exact Below.refl _ _ | (refine Below.setCell ?_ (by first | (simp; done) | (simp; omega) | omega) _) | (refine Below.alloc ?_ (by first | (simp; done) | (simp; omega) | omega) _) | (refine below_drewN ?_ _) | (refine Below.drew ?_)))) (Nat.le_refl _); have B0 : Below w.heap.size w (w.alloc (.cells #[.int .i64 m, .slice o xs.length c] 26)) := (by (repeat (first | exact Below.refl _ _ | (refine Below.setCell ?_ (by first | (simp; done) | (simp; omega) | omega) _) | (refine Below.alloc ?_ (by first | (simp; done) | (simp; omega) | omega) _) | (refine below_drewN ?_ _) | (refine Below.drew ?_)))); have hv0 := hv.below (w' := (w.alloc (.cells #[.int .i64 m, .slice o xs.length c] 26))) (by (repeat (first | exact Below.refl _ _ | (refine Below.setCell ?_ (by first | (simp; done) | (simp; omega) | omega) _) | (refine Below.alloc ?_ (by first | (simp; done) | (simp; omega) | omega) _) | (refine below_drewN ?_ _) | (refine Below.drew ?_)))) (Nat.le_refl _); generalize w.alloc (.cells #[.int .i64 m, .slice o xs.length c] 26) = w0 at X0 B0 hv0 ⊢)
    (obtain ⟨gqX0, gqX1⟩ := id X0; go_wp2_with fail; refine (IsSeries_c m _ xs _ hv0).mono ?_; rw [h1]; rintro e w1 ⟨rfl, hb⟩; (have X1 := X0.below hb (Nat.le_refl _); have hv1 := hv0.below hb (Nat.le_refl _); have B1 := B0.trans (hb.mono B0.size)); clear gqX0 gqX1; clear hb)
    go_wp2
    exact bodyPost_ret (v := .tuple #[.int .i64 0, .int .i64 1]) (by simp [results, Try.results42, go_sem]) rfl ⟨rfl, B1⟩
  · have hn := ser_n h1
    have hm := ser_m h1
    have hx := ser_x h1
    cases h2 : inB x 0 (m - 1)
    · have hR : valR m xs x = (0, 2) := by simp [valR, h1, h2]
      rw [hR]
      clear hR
      go_enter Try.func42, Try.ntmps42
      go_wp2_with fail
      (have X0 := ((RB2.mk1 w  (.int .i64 m) (.slice o xs.length c) 26).1).below (w' := (w.alloc (.cells #[.int .i64 m, .slice o xs.length c] 26))) (by (repeat (first | exact Below.refl _ _ | (refine Below.setCell ?_ (by first | (simp; done) | (simp; omega) | omega) _) | (refine Below.alloc ?_ (by first | (simp; done) | (simp; omega) | omega) _) | (refine below_drewN ?_ _) | (refine Below.drew ?_)))) (Nat.le_refl _); have B0 : Below w.heap.size w (w.alloc (.cells #[.int .i64 m, .slice o xs.length c] 26)) := (by (repeat (first | exact Below.refl _ _ | (refine Below.setCell ?_ (by first | (simp; done) | (simp; omega) | omega) _) | (refine Below.alloc ?_ (by first | (simp; done) | (simp; omega) | omega) _) | (refine below_drewN ?_ _) | (refine Below.drew ?_)))); have hv0 := hv.below (w' := (w.alloc (.cells #[.int .i64 m, .slice o xs.length c] 26))) (by (repeat (first | exact Below.refl _ _ | (refine Below.setCell ?_ (by first | (simp; done) | (simp; omega) | omega) _) | (refine Below.alloc ?_ (by first | (simp; done) | (simp; omega) | omega) _) | (refine below_drewN ?_ _) | (refine Below.drew ?_)))) (Nat.le_refl _); generalize w.alloc (.cells #[.int .i64 m, .slice o xs.length c] 26) = w0 at X0 B0 hv0 ⊢)
      (obtain ⟨gqX0, gqX1⟩ := id X0; go_wp2_with fail; refine (IsSeries_c m _ xs _ hv0).mono ?_; rw [h1]; rintro e w1 ⟨rfl, hb⟩; (have X1 := X0.below hb (Nat.le_refl _); have hv1 := hv0.below hb (Nat.le_refl _); have B1 := B0.trans (hb.mono B0.size)); clear gqX0 gqX1; clear hb)
      obtain ⟨k0, k1⟩ := id X1
      go_wp2_with fail
      refine (isNumber_c x m _ (by omega) (by omega)).mono ?_
      rw [h2]
      rintro e w' ⟨rfl, rfl⟩
      go_wp2
      exact bodyPost_ret (v := .tuple #[.int .i64 0, .int .i64 2]) (by simp [results, Try.results42, go_sem]) rfl ⟨rfl, B1⟩
    · have hb := inB_t h2
      have hR : valR m xs x = (valH m x xs, 0) := by simp [valR, h1, h2]
      rw [hR]
      clear hR
      go_enter Try.func42, Try.ntmps42
      go_wp2_with fail
      (have X0 := ((RB2.mk1 w  (.int .i64 m) (.slice o xs.length c) 26).1).below (w' := (w.alloc (.cells #[.int .i64 m, .slice o xs.length c] 26))) (by (repeat (first | exact Below.refl _ _ | (refine Below.setCell ?_ (by first | (simp; done) | (simp; omega) | omega) _) | (refine Below.alloc ?_ (by first | (simp; done) | (simp; omega) | omega) _) | (refine below_drewN ?_ _) | (refine Below.drew ?_)))) (Nat.le_refl _); have B0 : Below w.heap.size w (w.alloc (.cells #[.int .i64 m, .slice o xs.length c] 26)) := (by (repeat (first | exact Below.refl _ _ | (refine Below.setCell ?_ (by first | (simp; done) | (simp; omega) | omega) _) | (refine Below.alloc ?_ (by first | (simp; done) | (simp; omega) | omega) _) | (refine below_drewN ?_ _) | (refine Below.drew ?_)))); have hv0 := hv.below (w' := (w.alloc (.cells #[.int .i64 m, .slice o xs.length c] 26))) (by (repeat (first | exact Below.refl _ _ | (refine Below.setCell ?_ (by first | (simp; done) | (simp; omega) | omega) _) | (refine Below.alloc ?_ (by first | (simp; done) | (simp; omega) | omega) _) | (refine below_drewN ?_ _) | (refine Below.drew ?_)))) (Nat.le_refl _); generalize w.alloc (.cells #[.int .i64 m, .slice o xs.length c] 26) = w0 at X0 B0 hv0 ⊢)
      (obtain ⟨gqX0, gqX1⟩ := id X0; go_wp2_with fail; refine (IsSeries_c m _ xs _ hv0).mono ?_; rw [h1]; rintro e w1 ⟨rfl, hb⟩; (have X1 := X0.below hb (Nat.le_refl _); have hv1 := hv0.below hb (Nat.le_refl _); have B1 := B0.trans (hb.mono B0.size)); clear gqX0 gqX1; clear hb)
      obtain ⟨k0, k1⟩ := id X1
      go_wp2_with fail
      refine (isNumber_c x m _ (by omega) (by omega)).mono ?_
      rw [h2]
      rintro e w' ⟨rfl, rfl⟩
      go_wp2_with fail
      refine (valueOf_c m x _ xs _ hv1 (by omega) (by omega) (by omega) (by omega) (by omega) hx).mono ?_
      rintro e w' ⟨rfl, rfl⟩
      go_wp2
      exact bodyPost_ret (v := .tuple #[.int .i64 (valH m x xs), .int .i64 0]) (by simp [results, Try.results42, go_sem]) rfl ⟨rfl, B1⟩

set_option maxHeartbeats 2000000 in
set_option maxRecDepth 100000 in
theorem sValueOfSeries_c (m x : Int) (v : Value) (xs : List Int) (w : World) (hv : RdI w v xs) :
    Calls Try.prog 43 #[.agg #[.int .i64 m, v], .int .i64 x] w fun e w' => VEnd2 w w' (valR m xs x) e := by
  obtain ⟨o, c, rfl, hmx, -⟩ := id hv
  have hml := hmx.1
  clear hmx
  cases h1 : serB m xs
  · have hR : valR m xs x = (0, 1) := by simp [valR, h1]
    rw [hR]
    clear hR
    go_enter Try.func43, Try.ntmps43
    go_wp2_with fail
    (have X0 := ((RB2.mk1 w  (.int .i64 m) (.slice o xs.length c) 26).1).below (w' := (w.alloc (.cells #[.int .i64 m, .slice o xs.length c] 26))) (by (repeat (first | exact Below.refl _ _ | (refine Below.setCell ?_ (by first | (simp; done) | (simp; omega) | omega) _) | (refine Below.alloc ?_ (by first | (simp; done) | (simp; omega) | omega) _) | (refine below_drewN ?_ _) | (refine Below.drew ?_)))) (Nat.le_refl _); have B0 : Below w.heap.size w (w.alloc (.cells #[.int .i64 m, .slice o xs.length c] 26)) := (by (repeat (first | exact Below.refl _ _ | (refine Below.setCell ?_ (by first | (simp; done) | (simp; omega) | omega) _) | (refine Below.alloc ?_ (by first | (simp; done) | (simp; omega) | omega) _) | (refine below_drewN ?_ _) | (refine Below.drew ?_)))); have hv0 := hv.below (w' := (w.alloc (.cells #[.int .i64 m, .slice o xs.length c] 26))) (by (repeat (first | exact Below.refl _ _ | (refine Below.setCell ?_ (by first | (simp; done) | (simp; omega) | omega) _) | (refine Below.alloc ?_ (by first | (simp; done) | (simp; omega) | omega) _) | (refine below_drewN ?_ _) | (refine Below.drew ?_)))) (Nat.le_refl _); generalize w.alloc (.cells #[.int .i64 m, .slice o xs.length c] 26) = w0 at X0 B0 hv0 ⊢)
    (obtain ⟨gqX0, gqX1⟩ := id X0; go_wp2_with fail; refine (l02Is_c m _ xs _ hv0).mono ?_; rw [h1]; rintro e w1 ⟨rfl, hb⟩; (have X1 := X0.below hb (Nat.le_refl _); have hv1 := hv0.below hb (Nat.le_refl _); have B1 := B0.trans (hb.mono B0.size)); clear gqX0 gqX1; clear hb)
    go_wp2
    exact bodyPost_ret (v := .tuple #[.int .i64 0, .int .i64 1]) (by simp [results, Try.results43, go_sem]) rfl ⟨rfl, B1⟩
  · have hn := ser_n h1
    have hm := ser_m h1
    have hx := ser_x h1
    cases h2 : inB x 0 (m - 1)
    · have hR : valR m xs x = (0, 2) := by simp [valR, h1, h2]
      rw [hR]
      clear hR
      go_enter Try.func43, Try.ntmps43
      go_wp2_with fail
      (have X0 := ((RB2.mk1 w  (.int .i64 m) (.slice o xs.length c) 26).1).below (w' := (w.alloc (.cells #[.int .i64 m, .slice o xs.length c] 26))) (by (repeat (first | exact Below.refl _ _ | (refine Below.setCell ?_ (by first | (simp; done) | (simp; omega) | omega) _) | (refine Below.alloc ?_ (by first | (simp; done) | (simp; omega) | omega) _) | (refine below_drewN ?_ _) | (refine Below.drew ?_)))) (Nat.le_refl _); have B0 : Below w.heap.size w (w.alloc (.cells #[.int .i64 m, .slice o xs.length c] 26)) := (by (repeat (first | exact Below.refl _ _ | (refine Below.setCell ?_ (by first | (simp; done) | (simp; omega) | omega) _) | (refine Below.alloc ?_ (by first | (simp; done) | (simp; omega) | omega) _) | (refine below_drewN ?_ _) | (refine Below.drew ?_)))); have hv0 := hv.below (w' := (w.alloc (.cells #[.int .i64 m, .slice o xs.length c] 26))) (by (repeat (first | exact Below.refl _ _ | (refine Below.setCell ?_ (by first | (simp; done) | (simp; omega) | omega) _) | (refine Below.alloc ?_ (by first | (simp; done) | (simp; omega) | omega) _) | (refine below_drewN ?_ _) | (refine Below.drew ?_)))) (Nat.le_refl _); generalize w.alloc (.cells #[.int .i64 m, .slice o xs.length c] 26) = w0 at X0 B0 hv0 ⊢)
      (obtain ⟨gqX0, gqX1⟩ := id X0; go_wp2_with fail; refine (l02Is_c m _ xs _ hv0).mono ?_; rw [h1]; rintro e w1 ⟨rfl, hb⟩; (have X1 := X0.below hb (Nat.le_refl _); have hv1 := hv0.below hb (Nat.le_refl _); have B1 := B0.trans (hb.mono B0.size)); clear gqX0 gqX1; clear hb)
      obtain ⟨k0, k1⟩ := id X1
      go_wp2_with fail
      refine (l01In_c x 0 (m - 1) _).mono ?_
      rw [h2]
      rintro e w' ⟨rfl, rfl⟩
      go_wp2
      exact bodyPost_ret (v := .tuple #[.int .i64 0, .int .i64 2]) (by simp [results, Try.results43, go_sem]) rfl ⟨rfl, B1⟩
    · have hb := inB_t h2
      have hR : valR m xs x = (valH m x xs, 0) := by simp [valR, h1, h2]
      rw [hR]
      clear hR
      obtain ⟨bx, fx, rfl, -⟩ := hv.cells (by omega)
      have m0 : (m == 0) = false := by simp; omega
      have m1 : ¬ m = 0 := by omega
      go_enter Try.func43, Try.ntmps43
      go_wp2_with fail
      (have X0 := ((RB2.mk1 w  (.int .i64 m) (.slice (some ⟨bx, fx, none⟩) xs.length c) 26).1).below (w' := (w.alloc (.cells #[.int .i64 m, .slice (some ⟨bx, fx, none⟩) xs.length c] 26))) (by (repeat (first | exact Below.refl _ _ | (refine Below.setCell ?_ (by first | (simp; done) | (simp; omega) | omega) _) | (refine Below.alloc ?_ (by first | (simp; done) | (simp; omega) | omega) _) | (refine below_drewN ?_ _) | (refine Below.drew ?_)))) (Nat.le_refl _); have B0 : Below w.heap.size w (w.alloc (.cells #[.int .i64 m, .slice (some ⟨bx, fx, none⟩) xs.length c] 26)) := (by (repeat (first | exact Below.refl _ _ | (refine Below.setCell ?_ (by first | (simp; done) | (simp; omega) | omega) _) | (refine Below.alloc ?_ (by first | (simp; done) | (simp; omega) | omega) _) | (refine below_drewN ?_ _) | (refine Below.drew ?_)))); have hv0 := hv.below (w' := (w.alloc (.cells #[.int .i64 m, .slice (some ⟨bx, fx, none⟩) xs.length c] 26))) (by (repeat (first | exact Below.refl _ _ | (refine Below.setCell ?_ (by first | (simp; done) | (simp; omega) | omega) _) | (refine Below.alloc ?_ (by first | (simp; done) | (simp; omega) | omega) _) | (refine below_drewN ?_ _) | (refine Below.drew ?_)))) (Nat.le_refl _); generalize w.alloc (.cells #[.int .i64 m, .slice (some ⟨bx, fx, none⟩) xs.length c] 26) = w0 at X0 B0 hv0 ⊢)
      (obtain ⟨gqX0, gqX1⟩ := id X0; go_wp2_with fail; refine (l02Is_c m _ xs _ hv0).mono ?_; rw [h1]; rintro e w1 ⟨rfl, hb⟩; (have X1 := X0.below hb (Nat.le_refl _); have hv1 := hv0.below hb (Nat.le_refl _); have B1 := B0.trans (hb.mono B0.size)); clear gqX0 gqX1; clear hb)
      obtain ⟨k0, k1⟩ := id X1
      go_wp2_with fail
      refine (l01In_c x 0 (m - 1) _).mono ?_
      rw [h2]
      rintro e w' ⟨rfl, rfl⟩
      go_wp2_with fail
      refine (l02Degree_c m (some ⟨bx, fx, none⟩) xs.length c _ hml).mono ?_
      rintro e w2 ⟨rfl, hb2⟩
      (have X2 := X1.below hb2 (Nat.le_refl _); have hv2 := hv1.below hb2 (Nat.le_refl _); have B2 := B1.trans (hb2.mono B1.size))
      clear k0 k1
      go_wp2_with fail
      go_loopw [6, 7] (fun s i wr => ∃ j : Nat, j ≤ xs.length ∧ i = .int .i64 ((j : Int) - 1) ∧ s = .int .i64 (valH m x (xs.drop j)) ∧ Box2 wr w.heap.size (.int .i64 m) (.slice (some ⟨bx, fx, none⟩) xs.length c) ∧ RdI wr (.slice (some ⟨bx, fx, none⟩) xs.length c) xs ∧ Below w.heap.size w wr) (fun _ i _ => ((intOf i) + 1).toNat)
      case atStart => exact ⟨xs.length, Nat.le_refl _, rfl, by rw [List.drop_length]; rfl, X2, hv2, B2⟩
      case round =>
        obtain ⟨j, hj, rfl, rfl, Xr, hvd, hBr⟩ := hrel
        obtain ⟨x0, x1⟩ := id Xr
        by_cases hlt : 0 < j
        · obtain ⟨k, rfl⟩ : ∃ k, j = k + 1 := ⟨j - 1, by omega⟩
          have ek : (((k + 1 : Nat) : Int)) - 1 = (k : Int) := by omega
          rw [ek]
          clear ek
          have cx := hvd.cell0 (some_at0 (xs := xs) (k := k) (by omega))
          have hxk := at0_range (by omega) hx k
          have HS := Lib.hid (valH_drop m x (xs := xs) (k := k) (by omega))
          have hs := valH_range (show 0 < m by omega) x (xs.drop (k + 1))
          generalize valH m x (xs.drop (k + 1)) = s at hs HS ⊢
          have hp := Int.mul_nonneg hs.1 hb.1
          have hp2 : s * x ≤ 10000 * 10000 := Int.mul_le_mul (by omega) (by omega) hb.1 (by omega)
          have i0 : (0 : Int) ≤ (k : Int) := by omega
          have i1 : (k : Int) < (xs.length : Int) := by omega
          have e1 : IntKind.i64.wrap (s * x) = s * x := IntWalk.i64_in _ (by omega)
          have e2 : IntKind.i64.wrap (s * x + at0 xs k) = s * x + at0 xs k := IntWalk.i64_in _ (by omega)
          have e3 : (s * x + at0 xs k).tmod m = (s * x + at0 xs k) % m := Int.tmod_eq_emod_of_nonneg (by omega)
          go_wp2_with fail
          go_quiet (fail)
          go_wp2
          exact ⟨⟨k, by omega, by go_num, by rw [HS.out], Xr.below (below_drewN (Below.refl wr.heap.size wr) nq) (Nat.le_refl _), hvd.below (below_drewN (Below.refl wr.heap.size wr) nq) (Nat.le_refl _), below_drewN hBr _⟩, by simp [intOf]⟩
        · obtain rfl : j = 0 := by omega
          rw [List.drop_zero]
          go_wp2
          exact bodyPost_ret (v := .tuple #[.int .i64 (valH m x xs), .int .i64 0]) (by simp [results, Try.results43, go_sem]) rfl ⟨rfl, hBr⟩
end Go.Proofs.Ytcjinlfgeljmkaa
