/- Lemmas of PlaD. -/
import Derived.Test.YtcjinlfgeljmkaaWTPlaC
import Derived.Test.YtcjinlfgeljmkaaWTSRev
set_option linter.unusedSimpArgs false
set_option linter.unusedVariables false
namespace Go.Proofs.Ytcjinlfgeljmkaa
open Go.RowKit

def parF (t : List (List Int)) (k : Int) (i j : Nat) : Int := if k = 0 then ((i : Int) + 1) * atT t (i + 1) j else ((j : Int) + 1) * atT t i (j + 1)
def parT (m : Int) (k : Int) (t : List (List Int)) : List (List Int) := tri (t.length - 1) (fun i j => parF t k i j % m)
def parPR (m : Int) (t : List (List Int)) (k : Int) : PR := if plaB m t then (if inB k 0 1 then (if t.length = 2 then PR.bad 5 else ⟨m, parT m k t, 0⟩) else PR.bad 2) else PR.bad 1

theorem parF_range {t : List (List Int)} {k : Int} {i j n : Nat} {m : Int} (h : i + j < n) (ha : (∃ row, t[i + 1]? = some row ∧ row[j]? = some (atT t (i + 1) j) ∧ row.length = n + 1 - (i + 1) ∧ 0 ≤ atT t (i + 1) j ∧ atT t (i + 1) j < m) ∧ (∃ row, t[i]? = some row ∧ row[j + 1]? = some (atT t i (j + 1)) ∧ row.length = n + 1 - i ∧ 0 ≤ atT t i (j + 1) ∧ atT t i (j + 1) < m))
    (hn : n ≤ 1000) (hm : m ≤ 1000000) : -9000000000000000000 ≤ parF t k i j ∧ parF t k i j ≤ 9000000000000000000 := by
  obtain ⟨⟨_, _, _, _, a1, a2⟩, ⟨_, _, _, _, b1, b2⟩⟩ := ha
  have p1 := Int.mul_nonneg (show (0 : Int) ≤ (i : Int) + 1 by omega) a1
  have p2 := Int.mul_nonneg (show (0 : Int) ≤ (j : Int) + 1 by omega) b1
  have p3 : ((i : Int) + 1) * atT t (i + 1) j ≤ 1001 * 1000000 := Int.mul_le_mul (by omega) (by omega) a1 (by omega)
  have p4 : ((j : Int) + 1) * atT t i (j + 1) ≤ 1001 * 1000000 := Int.mul_le_mul (by omega) (by omega) b1 (by omega)
  unfold parF
  split <;> omega

set_option maxHeartbeats 400000 in
theorem isSide_c (k : Int) (w : World) : Calls Try.prog 156 #[.int .i64 k] w fun e w' => e = .returned (.bool (inB k 0 1)) ∧ w = w' := by
  go_enter Try.func156, Try.ntmps156
  go_wp2_with fail
  refine (in_c k 0 1 _).mono ?_
  rintro e w' ⟨rfl, rfl⟩
  go_wp2
  go_ret
  exact ⟨rfl, rfl⟩

set_option maxHeartbeats 1000000 in
theorem partial1_c (k : Int) (i j b0 b1 n : Nat) (m1 M : Int) (v : Value) (xss : List (List Int)) (w : World) (K : Cel1 w b0 0 (.int .i64 k)) (X : Box2 w b1 (.int .i64 m1) v) (hv : RdT w v xss) (hn : n ≤ 1000) (hM : M ≤ 1000000) (hij : i + j < n)
    (hx : ∃ row, xss[i + 1]? = some row ∧ row[j]? = some (atT xss (i + 1) j) ∧ row.length = n + 1 - (i + 1) ∧ 0 ≤ atT xss (i + 1) j ∧ atT xss (i + 1) j < M)
    (hy : ∃ row, xss[i]? = some row ∧ row[j + 1]? = some (atT xss i (j + 1)) ∧ row.length = n + 1 - i ∧ 0 ≤ atT xss i (j + 1) ∧ atT xss i (j + 1) < M) :
    Calls Try.prog 160 #[.int .i64 i, .int .i64 j, .pointer (some ⟨b0, 0, none⟩), .pointer (some ⟨b1, 0, none⟩)] w fun e w' => e = .returned (.int .i64 (parF xss k i j)) ∧ ∃ d, w' = w.drewN d := by
  obtain ⟨o1, c1, rfl, hm1, -⟩ := id hv
  have kk := K.get
  obtain ⟨x0, x1⟩ := X
  have i0 : (0 : Int) ≤ (i : Int) := by omega
  have j0 : (0 : Int) ≤ (j : Int) := by omega
  by_cases hk : k = 0
  · obtain ⟨r1, hr1, hr1j, hl1, hx0, hx1⟩ := hx
    have hR : parF xss k i j = ((i : Int) + 1) * atT xss (i + 1) j := by simp [parF, hk]
    rw [hR]
    have hk2 : (k == 0) = true := by simpa using hk
    have a1 := (List.getElem?_eq_some_iff.1 hr1).1
    have a3 := (List.getElem?_eq_some_iff.1 hr1j).1
    obtain ⟨bx, fx, rfl, -⟩ := hv.rows (by omega)
    obtain ⟨p1, q1, cx, rx⟩ := hv.row hr1
    obtain ⟨bp, fp, rfl, -⟩ := rx.cells (by omega)
    have ex := rx.cell0 hr1j
    have i1 : (i : Int) + 1 < (xss.length : Int) := by omega
    have i2 : (0 : Int) ≤ (i : Int) + 1 := by omega
    have i3 : ((i : Int) + 1).toNat = i + 1 := by omega
    have j1 : (j : Int) < (r1.length : Int) := by omega
    have hp := Int.mul_nonneg i2 hx0
    have hp2 : ((i : Int) + 1) * atT xss (i + 1) j ≤ 1001 * 1000000 := Int.mul_le_mul (by omega) (by omega) hx0 (by omega)
    have e0 : IntKind.i64.wrap ((i : Int) + 1) = (i : Int) + 1 := IntWalk.i64_in _ (by omega)
    have e1 : IntKind.i64.wrap (((i : Int) + 1) * atT xss (i + 1) j) = ((i : Int) + 1) * atT xss (i + 1) j := IntWalk.i64_in _ (by omega)
    clear hr1 hr1j hR hk
    go_enter Try.func160, Try.ntmps160
    go_wp2
    go_ret
    exact ⟨rfl, 0, rfl⟩
  · obtain ⟨r1, hr1, hr1j, hl1, hx0, hx1⟩ := hy
    have hR : parF xss k i j = ((j : Int) + 1) * atT xss i (j + 1) := by simp [parF, hk]
    rw [hR]
    have hk2 : (k == 0) = false := by simpa using hk
    have a1 := (List.getElem?_eq_some_iff.1 hr1).1
    have a3 := (List.getElem?_eq_some_iff.1 hr1j).1
    obtain ⟨bx, fx, rfl, -⟩ := hv.rows (by omega)
    obtain ⟨p1, q1, cx, rx⟩ := hv.row hr1
    obtain ⟨bp, fp, rfl, -⟩ := rx.cells (by omega)
    have ex := rx.cell0 hr1j
    have i1 : (i : Int) < (xss.length : Int) := by omega
    have i2 : (0 : Int) ≤ (j : Int) + 1 := by omega
    have i3 : ((j : Int) + 1).toNat = j + 1 := by omega
    have j1 : (j : Int) + 1 < (r1.length : Int) := by omega
    have hp := Int.mul_nonneg i2 hx0
    have hp2 : ((j : Int) + 1) * atT xss i (j + 1) ≤ 1001 * 1000000 := Int.mul_le_mul (by omega) (by omega) hx0 (by omega)
    have e0 : IntKind.i64.wrap ((j : Int) + 1) = (j : Int) + 1 := IntWalk.i64_in _ (by omega)
    have e1 : IntKind.i64.wrap (((j : Int) + 1) * atT xss i (j + 1)) = ((j : Int) + 1) * atT xss i (j + 1) := IntWalk.i64_in _ (by omega)
    clear hr1 hr1j hR hk
    go_enter Try.func160, Try.ntmps160
    go_wp2
    go_ret
    exact ⟨rfl, 0, rfl⟩
theorem partial1_callable : Callable 160 := fun args w => Try.call160 args w

set_option maxHeartbeats 4000000 in
set_option maxRecDepth 100000 in
theorem PartialPlane_c (m k : Int) (v : Value) (xs : List (List Int)) (w : World) (hv : RdT w v xs) :
    Calls Try.prog 51 #[.agg #[.int .i64 m, v], .int .i64 k] w fun e w' => PEnd w w' (parPR m xs k) e := by
  obtain ⟨o, c, rfl, hmx, -⟩ := id hv
  have hml := hmx.1
  clear hmx
  have entry : ∀ W, W = ((w.alloc (.cells #[.int .i64 m, .slice o xs.length c] 42)).alloc (.cells #[.int .i64 k] 2)).alloc (.cells #[.int .i64 0, .slice none 0 0] 42) →
      Box2 W w.heap.size (.int .i64 m) (.slice o xs.length c) ∧ Cel1 W (w.heap.size + 1) 0 (.int .i64 k) ∧ RB2 W (w.heap.size + 1 + 1) (.int .i64 0) (.slice none 0 0) ∧ RdT W (.slice o xs.length c) xs ∧ Below w.heap.size w W := by
    rintro W rfl
    have hb : Below w.heap.size w (((w.alloc (.cells #[.int .i64 m, .slice o xs.length c] 42)).alloc (.cells #[.int .i64 k] 2)).alloc (.cells #[.int .i64 0, .slice none 0 0] 42)) := (by (repeat (first | exact Below.refl _ _ | (refine Below.setCell ?_ (by first | (simp; done) | (simp; omega) | omega) _) | (refine Below.alloc ?_ (by first | (simp; done) | (simp; omega) | omega) _) | (refine below_drewN ?_ _) | (refine Below.drew ?_))))
    have hX : Box2 (((w.alloc (.cells #[.int .i64 m, .slice o xs.length c] 42)).alloc (.cells #[.int .i64 k] 2)).alloc (.cells #[.int .i64 0, .slice none 0 0] 42)) w.heap.size (.int .i64 m) (.slice o xs.length c) := (Box2.mk' w _ _ 42).below (w' := (((w.alloc (.cells #[.int .i64 m, .slice o xs.length c] 42)).alloc (.cells #[.int .i64 k] 2)).alloc (.cells #[.int .i64 0, .slice none 0 0] 42))) (by (repeat (first | exact Below.refl _ _ | (refine Below.setCell ?_ (by first | (simp; done) | (simp; omega) | omega) _) | (refine Below.alloc ?_ (by first | (simp; done) | (simp; omega) | omega) _) | (refine below_drewN ?_ _) | (refine Below.drew ?_)))) (Nat.le_refl _)
    have hK0 : ((w.alloc (.cells #[.int .i64 m, .slice o xs.length c] 42)).alloc (.cells #[.int .i64 k] 2)).cell? ⟨(w.alloc (.cells #[.int .i64 m, .slice o xs.length c] 42)).heap.size, 0, none⟩ = some (.int .i64 k) := by simp
    have hK := keep_cell (w' := (((w.alloc (.cells #[.int .i64 m, .slice o xs.length c] 42)).alloc (.cells #[.int .i64 k] 2)).alloc (.cells #[.int .i64 0, .slice none 0 0] 42))) (B := ((w.alloc (.cells #[.int .i64 m, .slice o xs.length c] 42)).alloc (.cells #[.int .i64 k] 2)).heap.size) (by (repeat (first | exact Below.refl _ _ | (refine Below.setCell ?_ (by first | (simp; done) | (simp; omega) | omega) _) | (refine Below.alloc ?_ (by first | (simp; done) | (simp; omega) | omega) _) | (refine below_drewN ?_ _) | (refine Below.drew ?_)))) (Nat.le_refl _) hK0
    rw [show (w.alloc (.cells #[.int .i64 m, .slice o xs.length c] 42)).heap.size = w.heap.size + 1 by simp] at hK
    exact ⟨hX, ⟨hK⟩, RB2.mk3 w _ _ _ _ _, hv.below hb (Nat.le_refl _), hb⟩
  cases h1 : plaB m xs
  · have hR : parPR m xs k = PR.bad 1 := by simp [parPR, h1]
    rw [hR]
    clear hR
    go_enter Try.func51, Try.ntmps51
    go_wp2_with fail
    obtain ⟨X0, K0, R0, hv0, B0⟩ := entry _ rfl
    generalize ((w.alloc (.cells #[.int .i64 m, .slice o xs.length c] 42)).alloc (.cells #[.int .i64 k] 2)).alloc (.cells #[.int .i64 0, .slice none 0 0] 42) = w0 at X0 K0 R0 hv0 B0 ⊢
    clear entry
    (obtain ⟨gqX0, gqX1⟩ := id X0; go_wp2_with fail; refine (IsPlane_c m _ xs _ hv0).mono ?_; rw [h1]; rintro e w1 ⟨rfl, hb⟩; (have X1 := X0.below hb (Nat.le_refl _); have R1 := R0.below hb (Nat.le_refl _); have hv1 := hv0.below hb (Nat.le_refl _); have B1 := B0.trans (hb.mono B0.size)); clear gqX0 gqX1; clear hb)
    (obtain ⟨⟨r0, r1⟩, rf⟩ := id R1; go_wp2; exact bodyPost_ret (v := .tuple #[.agg #[.int .i64 0, .slice none 0 0], .int .i64 1]) (by simp [results, Try.results51, go_sem, r0, r1]) rfl ⟨_, rfl, OwS.nil _ _, (by (repeat (first | exact Below.refl _ _ | (refine Below.setCell ?_ (by first | (simp; done) | (simp; omega) | omega) _) | (refine Below.alloc ?_ (by first | (simp; done) | (simp; omega) | omega) _) | (refine below_drewN ?_ _) | (refine Below.drew ?_) | (refine Below.trans ?_ (Below.mono B1 (by first | (simp; done) | (simp; omega) | omega)))))), by simp [PR.bad, sizeT, numT]⟩)
  · have hn := pla_n h1
    have hm := pla_m h1
    have hx := pla_row h1
    have HX := Lib.hid hx
    clear hx
    cases h2 : inB k 0 1
    · have hR : parPR m xs k = PR.bad 2 := by simp [parPR, h1, h2]
      rw [hR]
      clear hR
      go_enter Try.func51, Try.ntmps51
      go_wp2_with fail
      obtain ⟨X0, K0, R0, hv0, B0⟩ := entry _ rfl
      generalize ((w.alloc (.cells #[.int .i64 m, .slice o xs.length c] 42)).alloc (.cells #[.int .i64 k] 2)).alloc (.cells #[.int .i64 0, .slice none 0 0] 42) = w0 at X0 K0 R0 hv0 B0 ⊢
      clear entry
      (obtain ⟨gqX0, gqX1⟩ := id X0; go_wp2_with fail; refine (IsPlane_c m _ xs _ hv0).mono ?_; rw [h1]; rintro e w1 ⟨rfl, hb⟩; (have X1 := X0.below hb (Nat.le_refl _); have K1 := K0.below hb (Nat.le_refl _); have R1 := R0.below hb (Nat.le_refl _); have hv1 := hv0.below hb (Nat.le_refl _); have B1 := B0.trans (hb.mono B0.size)); clear gqX0 gqX1; clear hb)
      have kk := K1.get
      go_wp2_with fail
      refine (isSide_c k _).mono ?_
      rw [h2]
      rintro e w' ⟨rfl, rfl⟩
      clear kk
      (obtain ⟨⟨r0, r1⟩, rf⟩ := id R1; go_wp2; exact bodyPost_ret (v := .tuple #[.agg #[.int .i64 0, .slice none 0 0], .int .i64 2]) (by simp [results, Try.results51, go_sem, r0, r1]) rfl ⟨_, rfl, OwS.nil _ _, (by (repeat (first | exact Below.refl _ _ | (refine Below.setCell ?_ (by first | (simp; done) | (simp; omega) | omega) _) | (refine Below.alloc ?_ (by first | (simp; done) | (simp; omega) | omega) _) | (refine below_drewN ?_ _) | (refine Below.drew ?_) | (refine Below.trans ?_ (Below.mono B1 (by first | (simp; done) | (simp; omega) | omega)))))), by simp [PR.bad, sizeT, numT]⟩)
    · by_cases h3 : xs.length = 2
      · have hR : parPR m xs k = PR.bad 5 := by simp [parPR, h1, h2, h3]
        rw [hR]
        clear hR
        have q1 : ((xs.length : Int) - 1 == 1) = true := by simp; omega
        clear h3
        go_enter Try.func51, Try.ntmps51
        go_wp2_with fail
        obtain ⟨X0, K0, R0, hv0, B0⟩ := entry _ rfl
        generalize ((w.alloc (.cells #[.int .i64 m, .slice o xs.length c] 42)).alloc (.cells #[.int .i64 k] 2)).alloc (.cells #[.int .i64 0, .slice none 0 0] 42) = w0 at X0 K0 R0 hv0 B0 ⊢
        clear entry
        (obtain ⟨gqX0, gqX1⟩ := id X0; go_wp2_with fail; refine (IsPlane_c m _ xs _ hv0).mono ?_; rw [h1]; rintro e w1 ⟨rfl, hb⟩; (have X1 := X0.below hb (Nat.le_refl _); have K1 := K0.below hb (Nat.le_refl _); have R1 := R0.below hb (Nat.le_refl _); have hv1 := hv0.below hb (Nat.le_refl _); have B1 := B0.trans (hb.mono B0.size)); clear gqX0 gqX1; clear hb)
        have kk := K1.get
        obtain ⟨k0, k1⟩ := id X1
        go_wp2_with fail
        refine (isSide_c k _).mono ?_
        rw [h2]
        rintro e w' ⟨rfl, rfl⟩
        clear kk k0 k1
        (obtain ⟨gqX0, gqX1⟩ := id X1; go_wp2_with fail; refine (degreeP_c m o xs.length c _ hml).mono ?_; skip; rintro e w2 ⟨rfl, hb⟩; (have X2 := X1.below hb (Nat.le_refl _); have R2 := R1.below hb (Nat.le_refl _); have hv2 := hv1.below hb (Nat.le_refl _); have B2 := B1.trans (hb.mono B1.size)); clear gqX0 gqX1; clear hb)
        (obtain ⟨⟨r0, r1⟩, rf⟩ := id R2; go_wp2; exact bodyPost_ret (v := .tuple #[.agg #[.int .i64 0, .slice none 0 0], .int .i64 5]) (by simp [results, Try.results51, go_sem, r0, r1]) rfl ⟨_, rfl, OwS.nil _ _, (by (repeat (first | exact Below.refl _ _ | (refine Below.setCell ?_ (by first | (simp; done) | (simp; omega) | omega) _) | (refine Below.alloc ?_ (by first | (simp; done) | (simp; omega) | omega) _) | (refine below_drewN ?_ _) | (refine Below.drew ?_) | (refine Below.trans ?_ (Below.mono B2 (by first | (simp; done) | (simp; omega) | omega)))))), by simp [PR.bad, sizeT, numT]⟩)
      · have hR : parPR m xs k = ⟨m, parT m k xs, 0⟩ := by simp [parPR, h1, h2, h3]
        rw [hR]
        have q1 : ((xs.length : Int) - 1 == 1) = false := by simp; omega
        obtain ⟨n, hN⟩ : ∃ n, xs.length = n + 1 := ⟨xs.length - 1, by omega⟩
        have n2 : 2 ≤ n := by omega
        have n3 : n ≤ 10 := by omega
        have hq := inB_t h2
        have HT := Lib.hid (show parT m k xs = tri n (fun i j => parF xs k i j % m) by unfold parT; rw [hN]; rfl)
        rw [HT.out]
        have hlen : sizeT (tri n (fun i j => parF xs k i j % m)) ≤ 1048576 := sizeT_tri (by omega) _
        have HA := Lib.hid (show ∀ i j, i + j < n → (∃ row, xs[i + 1]? = some row ∧ row[j]? = some (atT xs (i + 1) j) ∧ row.length = n + 1 - (i + 1) ∧ 0 ≤ atT xs (i + 1) j ∧ atT xs (i + 1) j < m) ∧ (∃ row, xs[i]? = some row ∧ row[j + 1]? = some (atT xs i (j + 1)) ∧ row.length = n + 1 - i ∧ 0 ≤ atT xs i (j + 1) ∧ atT xs i (j + 1) < m) from
          fun i j h => ⟨pla_at hN HX.out (by omega), pla_at hN HX.out (by omega)⟩)
        have HN := Lib.hid hN
        have e9 : IntKind.i64.wrap ((xs.length : Int) - 1 - 1) = (n : Int) - 1 := by rw [IntWalk.i64_in _ (by omega)]; omega
        clear hR h3 hN
        go_enter Try.func51, Try.ntmps51
        go_wp2_with fail
        obtain ⟨X0, K0, R0, hv0, B0⟩ := entry _ rfl
        generalize ((w.alloc (.cells #[.int .i64 m, .slice o xs.length c] 42)).alloc (.cells #[.int .i64 k] 2)).alloc (.cells #[.int .i64 0, .slice none 0 0] 42) = w0 at X0 K0 R0 hv0 B0 ⊢
        clear entry
        (obtain ⟨gqX0, gqX1⟩ := id X0; go_wp2_with fail; refine (IsPlane_c m _ xs _ hv0).mono ?_; rw [h1]; rintro e w1 ⟨rfl, hb⟩; (have X1 := X0.below hb (Nat.le_refl _); have K1 := K0.below hb (Nat.le_refl _); have R1 := R0.below hb (Nat.le_refl _); have hv1 := hv0.below hb (Nat.le_refl _); have B1 := B0.trans (hb.mono B0.size)); clear gqX0 gqX1; clear hb)
        have kk := K1.get
        obtain ⟨k0, k1⟩ := id X1
        go_wp2_with fail
        refine (isSide_c k _).mono ?_
        rw [h2]
        rintro e w' ⟨rfl, rfl⟩
        clear kk k0 k1
        (obtain ⟨gqX0, gqX1⟩ := id X1; go_wp2_with fail; refine (degreeP_c m o xs.length c _ hml).mono ?_; skip; rintro e w2 ⟨rfl, hb⟩; (have X2 := X1.below hb (Nat.le_refl _); have K2 := K1.below hb (Nat.le_refl _); have R2 := R1.below hb (Nat.le_refl _); have hv2 := hv1.below hb (Nat.le_refl _); have B2 := B1.trans (hb.mono B1.size)); clear gqX0 gqX1; clear hb)
        obtain ⟨k0, k1⟩ := id X2
        go_wp2_with fail
        clear k0 k1
        have hd0 : Below w2.heap.size w2 w2.drew := (Below.refl _ _).drew
        have hsd0 := hd0.size
        have hrl := R2.1.lt
        have hneR_X2 : w.heap.size + 1 + 1 ≠ w.heap.size := by omega
        obtain ⟨⟨q0_R_0, q0_R_1⟩, qf0_R⟩ := R2.below (Below.refl w2.heap.size w2) (Nat.le_refl _)
        obtain ⟨q0_X2_0, q0_X2_1⟩ := X2.below (Below.refl w2.heap.size w2) (Nat.le_refl _)
        go_region_held3 (fun w' => w'.cell? ⟨w.heap.size, 0, none⟩ = some (.int .i64 m) ∧ w'.cell? ⟨w.heap.size, 1, none⟩ = some (.slice o xs.length c)) (go_keep)
          (first
            | (go_at_call 157; refine (degreeP_c m o xs.length c _ hml).mono ?_; rintro e wd1 ⟨rfl, hbd1⟩; have hd1 : Below w2.heap.size w2 wd1 := (by (repeat (first | exact Below.refl _ _ | (refine Below.setCell ?_ (by first | (simp; done) | (simp; omega) | omega) _) | (refine Below.alloc ?_ (by first | (simp; done) | (simp; omega) | omega) _) | (refine below_drewN ?_ _) | (refine Below.drew ?_) | (refine Below.trans ?_ (Below.mono hbd1 (by first | (simp; done) | (simp; omega) | omega)))))); have hsd1 := hd1.size; have hsz1_ := hbd1.size; (try simp at hsz1_); obtain ⟨⟨q1_R_0, q1_R_1⟩, qf1_R⟩ := R2.below hd1 (Nat.le_refl _); obtain ⟨q1_X2_0, q1_X2_1⟩ := X2.below hd1 (Nat.le_refl _))
            | (go_at_call 158; refine (emptyPlane_c m ((n : Int) - 1) n _ rfl (by omega)).mono ?_; rintro e wd2 ⟨vz2, rfl, hod2, hbd2⟩; obtain ⟨oz, cz, rfl⟩ := hod2.shapeN (n := n) (zeroT_len n); have hd2 : Below w2.heap.size w2 wd2 := (by (repeat (first | exact Below.refl _ _ | (refine Below.setCell ?_ (by first | (simp; done) | (simp; omega) | omega) _) | (refine Below.alloc ?_ (by first | (simp; done) | (simp; omega) | omega) _) | (refine below_drewN ?_ _) | (refine Below.drew ?_) | (refine Below.trans ?_ (Below.mono hbd1 (by first | (simp; done) | (simp; omega) | omega))) | (refine Below.trans ?_ (Below.mono hbd2 (by first | (simp; done) | (simp; omega) | omega)))))); have hsd2 := hd2.size; have hsz2_ := hbd2.size; (try simp at hsz2_); obtain ⟨⟨q2_R_0, q2_R_1⟩, qf2_R⟩ := R2.below hd2 (Nat.le_refl _); obtain ⟨q2_X2_0, q2_X2_1⟩ := X2.below hd2 (Nat.le_refl _))
            | (go_at_call 159; refine (mapped2_c 160 _ _ (fun i j => parF xs k i j) m oz n cz _ (by omega) (by omega) (by omega) (by omega) partial1_callable (fun i j h => parF_range h (HA.out i j h) (by omega) (by omega)) (fun i j w1 h hb => partial1_c k i j _ _ n m m _ xs w1 ((((K2).below (by (repeat (first | exact Below.refl _ _ | (refine Below.setCell ?_ (by first | (simp; done) | (simp; omega) | omega) _) | (refine Below.alloc ?_ (by first | (simp; done) | (simp; omega) | omega) _) | (refine below_drewN ?_ _) | (refine Below.drew ?_) | (refine Below.trans ?_ (Below.mono hbd1 (by first | (simp; done) | (simp; omega) | omega))) | (refine Below.trans ?_ (Below.mono hbd2 (by first | (simp; done) | (simp; omega) | omega)))))) (Nat.le_refl _))).below hb (Nat.le_refl _)) ((((X2).below (by (repeat (first | exact Below.refl _ _ | (refine Below.setCell ?_ (by first | (simp; done) | (simp; omega) | omega) _) | (refine Below.alloc ?_ (by first | (simp; done) | (simp; omega) | omega) _) | (refine below_drewN ?_ _) | (refine Below.drew ?_) | (refine Below.trans ?_ (Below.mono hbd1 (by first | (simp; done) | (simp; omega) | omega))) | (refine Below.trans ?_ (Below.mono hbd2 (by first | (simp; done) | (simp; omega) | omega)))))) (Nat.le_refl _))).below hb (Nat.le_refl _)) ((((hv2).below (by (repeat (first | exact Below.refl _ _ | (refine Below.setCell ?_ (by first | (simp; done) | (simp; omega) | omega) _) | (refine Below.alloc ?_ (by first | (simp; done) | (simp; omega) | omega) _) | (refine below_drewN ?_ _) | (refine Below.drew ?_) | (refine Below.trans ?_ (Below.mono hbd1 (by first | (simp; done) | (simp; omega) | omega))) | (refine Below.trans ?_ (Below.mono hbd2 (by first | (simp; done) | (simp; omega) | omega)))))) (Nat.le_refl _))).below hb (Nat.le_refl _)) (by omega) (by omega) h (HA.out i j h).1 (HA.out i j h).2)).mono ?_; rintro e wd3 ⟨vp3, rfl, hod3, hbd3⟩; obtain ⟨op, cp, rfl⟩ := hod3.shapeN (n := n) (tri_len _ _); have hd3 : Below w2.heap.size w2 wd3 := (by (repeat (first | exact Below.refl _ _ | (refine Below.setCell ?_ (by first | (simp; done) | (simp; omega) | omega) _) | (refine Below.alloc ?_ (by first | (simp; done) | (simp; omega) | omega) _) | (refine below_drewN ?_ _) | (refine Below.drew ?_) | (refine Below.trans ?_ (Below.mono hbd1 (by first | (simp; done) | (simp; omega) | omega))) | (refine Below.trans ?_ (Below.mono hbd2 (by first | (simp; done) | (simp; omega) | omega))) | (refine Below.trans ?_ (Below.mono hbd3 (by first | (simp; done) | (simp; omega) | omega)))))); have hsd3 := hd3.size; have hsz3_ := hbd3.size; (try simp at hsz3_); obtain ⟨⟨q3_R_0, q3_R_1⟩, qf3_R⟩ := R2.below hd3 (Nat.le_refl _); obtain ⟨q3_X2_0, q3_X2_1⟩ := X2.below hd3 (Nat.le_refl _)))
        all_goals
          go_wp2
          refine bodyPost_ret (v := .tuple #[.agg #[.int .i64 m, .slice op n cp], .int .i64 0]) (by simp [results, Try.results51, go_sem, q3_R_0, q3_R_1]) rfl ⟨_, rfl, ?_, ?_, hlen⟩
          · have hbsz := B2.size
            exact ((hod3.low (by first | (simp; done) | (simp; omega) | omega) _).low (by first | (simp; done) | (simp; omega) | omega) _).mono (by first | (simp; done) | (simp; omega) | omega)
          · have hbsz := B2.size
            (repeat (first | exact Below.refl _ _ | (refine Below.setCell ?_ (by first | (simp; done) | (simp; omega) | omega) _) | (refine Below.alloc ?_ (by first | (simp; done) | (simp; omega) | omega) _) | (refine below_drewN ?_ _) | (refine Below.drew ?_) | (refine Below.trans ?_ (Below.mono hbd1 (by first | (simp; done) | (simp; omega) | omega))) | (refine Below.trans ?_ (Below.mono hbd2 (by first | (simp; done) | (simp; omega) | omega))) | (refine Below.trans ?_ (Below.mono hbd3 (by first | (simp; done) | (simp; omega) | omega))) | (refine Below.trans ?_ (Below.mono B2 (by first | (simp; done) | (simp; omega) | omega)))))
end Go.Proofs.Ytcjinlfgeljmkaa
