/- The first fault of a law: the reference's function. -/
import Derived.Test.YtflebfmkgmhccaaAxi
import Derived.Test.YtflebfmkgmhccaaLisQ
import Derived.Test.YtflebfmkgmhccaaCol
import Derived.Test.YtflebfmkgmhccaaPlaY
set_option linter.unusedSimpArgs false
set_option linter.unusedVariables false
namespace Go.Proofs.Ytflebfmkgmhccaa
open Go.RowKit

def lefL (m : Int) (n : Nat) (t : List (List Int)) (k : Nat) : List (List (List Int)) := (List.range k).map (fun c => hornT m n t (colT t n c))
def rigL (m : Int) (n : Nat) (t : List (List Int)) (k : Nat) : List (List (List Int)) := (List.range k).map (fun a => hornT m n t (t.getD a []))
theorem lefL_len (m : Int) (n : Nat) (t : List (List Int)) (k : Nat) : (lefL m n t k).length = k := by simp [lefL]
theorem rigL_len (m : Int) (n : Nat) (t : List (List Int)) (k : Nat) : (rigL m n t k).length = k := by simp [rigL]
theorem lefL_get {m : Int} {n : Nat} {t : List (List Int)} {k i : Nat} (h : i < k) : (lefL m n t k)[i]? = some (hornT m n t (colT t n i)) := by simp [lefL, h]
theorem rigL_get {m : Int} {n : Nat} {t : List (List Int)} {k i : Nat} (h : i < k) : (rigL m n t k)[i]? = some (hornT m n t (t.getD i [])) := by simp [rigL, h]
theorem lefL_snoc (m : Int) (n : Nat) (t : List (List Int)) (k : Nat) : lefL m n t (k + 1) = lefL m n t k ++ [hornT m n t (colT t n k)] := by simp [lefL, List.range_succ]
theorem rigL_snoc (m : Int) (n : Nat) (t : List (List Int)) (k : Nat) : rigL m n t (k + 1) = rigL m n t k ++ [hornT m n t (t.getD k [])] := by simp [rigL, List.range_succ]
theorem getD_some {t : List (List Int)} {k : Nat} {r : List Int} (h : t[k]? = some r) : t.getD k [] = r := by simp [List.getD, h]
theorem right_eq2 {m : Int} {n : Nat} {t : List (List Int)} (ht : PlaT m n t) {a b c : Nat} (h : a + b + c < n) : atT (hornT m n t (t.getD a [])) b c = rigC m n t a b c := by
  obtain ⟨row, hr, -⟩ := ht.row (i := a) (by omega)
  rw [getD_some hr]
  exact right_eq ht h row hr
theorem PlaT.rowx {m : Int} {n : Nat} {t : List (List Int)} (ht : PlaT m n t) {k : Nat} {r : List Int} (h : t[k]? = some r) : ∀ x ∈ r, 0 ≤ x ∧ x < m := by
  obtain ⟨hl, rfl⟩ := List.getElem?_eq_some_iff.1 h
  exact (ht.2 k hl).2

set_option maxHeartbeats 6000000 in
set_option maxRecDepth 100000 in
theorem l04Fault_c (m : Int) (n : Nat) (v : Value) (t : List (List Int)) (w : World) (hv : RdT w v t) (h1 : 1 ≤ n) (hn : n ≤ 1000) (hm : 2 ≤ m) (hm' : m ≤ 10000) (ht : PlaT m n t) :
    Calls Try.prog 54 #[.agg #[.int .i64 m, v]] w fun e w' => FEnd w w' (fauL m t n) e := by
  obtain ⟨o, c, rfl, hmx, -⟩ := id hv
  have hu : RdT w (.slice o n c) t := by rw [ht.1] at hv; exact hv
  rw [ht.1] at hmx ⊢
  clear hv
  unfold maxLen at hmx
  have HT := Lib.hid ht
  obtain ⟨bt, ft, rfl, -⟩ := hu.rows (by rw [ht.1]; omega)
  clear ht
  go_enter Try.func54, Try.ntmps54
  go_wp2_with fail
  (have X0 := ((RB2.mk1 w  (.int .i64 m) (.slice (some ⟨bt, ft, none⟩) n c) 29).1).below (w' := (w.alloc (.cells #[.int .i64 m, .slice (some ⟨bt, ft, none⟩) n c] 29))) (by (repeat (first | exact Below.refl _ _ | (refine Below.setCell ?_ (by first | (simp; done) | (simp; omega) | omega) _) | (refine Below.alloc ?_ (by first | (simp; done) | (simp; omega) | omega) _) | (refine below_drewN ?_ _) | (refine Below.drew ?_)))) (Nat.le_refl _); have B0 : Below w.heap.size w (w.alloc (.cells #[.int .i64 m, .slice (some ⟨bt, ft, none⟩) n c] 29)) := (by (repeat (first | exact Below.refl _ _ | (refine Below.setCell ?_ (by first | (simp; done) | (simp; omega) | omega) _) | (refine Below.alloc ?_ (by first | (simp; done) | (simp; omega) | omega) _) | (refine below_drewN ?_ _) | (refine Below.drew ?_)))); have hu0 := hu.below (w' := (w.alloc (.cells #[.int .i64 m, .slice (some ⟨bt, ft, none⟩) n c] 29))) (by (repeat (first | exact Below.refl _ _ | (refine Below.setCell ?_ (by first | (simp; done) | (simp; omega) | omega) _) | (refine Below.alloc ?_ (by first | (simp; done) | (simp; omega) | omega) _) | (refine below_drewN ?_ _) | (refine Below.drew ?_)))) (Nat.le_refl _); generalize w.alloc (.cells #[.int .i64 m, .slice (some ⟨bt, ft, none⟩) n c] 29) = w0 at X0 B0 hu0 ⊢)
  have B0s := B0.size
  obtain ⟨x0, x1⟩ := id X0
  go_quiet (fail)
  go_wp2_with fail
  go_loopw [5] (fun s wr => ∃ k : Nat, k ≤ n ∧ s = .int .i64 k ∧ Hid (∀ j, j < k → atT t j 0 = dueI j) ∧ ∃ d, wr = w0.drewN d) (fun i _ => n - (intOf i).toNat)
  case atStart => exact ⟨0, Nat.zero_le _, rfl, Lib.hid (fun j hj => by omega), _, rfl⟩
  case round =>
    obtain ⟨k, hk, rfl, HQ, d, rfl⟩ := hrel
    by_cases hlt : k < n
    · obtain ⟨r1, hr1, hl1, hj1⟩ := HT.out.row hlt
      obtain ⟨p1, q1, cx, rx⟩ := hu0.row hr1
      rw [hl1] at cx rx
      obtain ⟨b1, f1, rfl, -⟩ := rx.cells (by omega)
      have ex := rx.cell0 (hj1 0 (by omega))
      rw [Nat.add_zero] at ex
      clear hr1 hl1 hj1
      have i0 : (0 : Int) ≤ (k : Int) := by omega
      have i1 : (k : Int) < (n : Int) := by omega
      have i2 : (0 : Int) < ((n - k : Nat) : Int) := by omega
      have i3 : 0 < n - k := by omega
      cases hk1 : ((k : Int) == 1)
      · cases hx : (atT t k 0 != 0)
        · have HE := Lib.hid (show atT t k 0 = dueI k by rw [dueI_0 hk1]; simpa using hx)
          go_wp2
          exact ⟨⟨k + 1, by omega, by go_num, Lib.hid (fun j hj => by
            rcases Nat.lt_or_ge j k with h | h
            · exact HQ.out j h
            · obtain rfl : j = k := by omega
              exact HE.out), _, rfl⟩, by simp [intOf]; omega⟩
        · have HE := Lib.hid (show fauL m t n = [0, (k : Int)] from fauL_1 hlt HQ.out (by rw [dueI_0 hk1]; simpa using hx))
          go_wp2
          go_ret
          exact FEnd.lit (n := 2) (W := w0.drewN d) (ys := [0, (k : Int)]) HE.out (by simp) rfl (by omega) (by first | (simp; done) | (simp; omega) | omega) (by (repeat (first | exact Below.refl _ _ | (refine Below.setCell ?_ (by first | (simp; done) | (simp; omega) | omega) _) | (refine Below.alloc ?_ (by first | (simp; done) | (simp; omega) | omega) _) | (refine below_drewN ?_ _) | (refine Below.drew ?_) | (refine Below.trans ?_ (Below.mono B0 (by first | (simp; done) | (simp; omega) | omega))))))
      · cases hx : (atT t k 0 != 1)
        · have HE := Lib.hid (show atT t k 0 = dueI k by rw [dueI_1 hk1]; simpa using hx)
          go_wp2
          exact ⟨⟨k + 1, by omega, by go_num, Lib.hid (fun j hj => by
            rcases Nat.lt_or_ge j k with h | h
            · exact HQ.out j h
            · obtain rfl : j = k := by omega
              exact HE.out), _, rfl⟩, by simp [intOf]; omega⟩
        · have HE := Lib.hid (show fauL m t n = [0, (k : Int)] from fauL_1 hlt HQ.out (by rw [dueI_1 hk1]; simpa using hx))
          go_wp2
          go_ret
          exact FEnd.lit (n := 2) (W := w0.drewN d) (ys := [0, (k : Int)]) HE.out (by simp) rfl (by omega) (by first | (simp; done) | (simp; omega) | omega) (by (repeat (first | exact Below.refl _ _ | (refine Below.setCell ?_ (by first | (simp; done) | (simp; omega) | omega) _) | (refine Below.alloc ?_ (by first | (simp; done) | (simp; omega) | omega) _) | (refine below_drewN ?_ _) | (refine Below.drew ?_) | (refine Below.trans ?_ (Below.mono B0 (by first | (simp; done) | (simp; omega) | omega))))))
    · obtain rfl : k = n := by omega
      have H1 := HQ
      clear HQ
      go_wp2_with fail
      go_loopw [7] (fun s wr => ∃ i : Nat, i ≤ k ∧ s = .int .i64 i ∧ Hid (∀ i', i' < i → ∀ j', i' < j' → i' + j' < k → atT t i' j' = atT t j' i') ∧ ∃ d, wr = w0.drewN d) (fun i _ => k - (intOf i).toNat)
      case atStart => exact ⟨0, Nat.zero_le _, rfl, Lib.hid (fun j hj => by omega), d, rfl⟩
      case round =>
        obtain ⟨i, hi, rfl, HA, d, rfl⟩ := hrel
        by_cases hlt : i < k
        · have i0 : (0 : Int) ≤ (i : Int) := by omega
          have i1 : (i : Int) < (k : Int) := by omega
          go_wp2_with fail
          go_loopw [8] (fun s wr => ∃ j : Nat, i < j ∧ (j ≤ k - i ∨ j = i + 1) ∧ s = .int .i64 j ∧ Hid (∀ j', i < j' → j' < j → atT t i j' = atT t j' i) ∧ ∃ d, wr = w0.drewN d) (fun i' _ => k - i - (intOf i').toNat)
          case atStart => exact ⟨i + 1, by omega, .inr rfl, by go_num, Lib.hid (fun j hj h => by omega), d, rfl⟩
          case round =>
            obtain ⟨j, hij, hj, rfl, HB, d, rfl⟩ := hrel
            by_cases hjl : j < k - i
            · obtain ⟨r1, hr1, hl1, hj1⟩ := HT.out.row hlt
              obtain ⟨p1, q1, cx, rx⟩ := hu0.row hr1
              rw [hl1] at cx rx
              obtain ⟨b1, f1, rfl, -⟩ := rx.cells (by omega)
              have ex := rx.cell0 (hj1 j hjl)
              obtain ⟨r2, hr2, hl2, hj2⟩ := HT.out.row (show j < k by omega)
              obtain ⟨p2, q2, cy, ry⟩ := hu0.row hr2
              rw [hl2] at cy ry
              obtain ⟨b2, f2, rfl, -⟩ := ry.cells (by omega)
              have ey := ry.cell0 (hj2 i (by omega))
              clear hr1 hl1 hj1 hr2 hl2 hj2
              have j0 : (0 : Int) ≤ (j : Int) := by omega
              have j1 : (j : Int) < ((k - i : Nat) : Int) := by omega
              have j2 : (j : Int) < (k : Int) := by omega
              have j3 : (i : Int) < ((k - j : Nat) : Int) := by omega
              have j4 : (i : Int) + (j : Int) < (k : Int) := by omega
              cases hx : (atT t i j != atT t j i)
              · have HE := Lib.hid (show atT t i j = atT t j i by simpa using hx)
                go_wp2_with fail
                go_quiet (fail)
                go_wp2
                exact ⟨⟨j + 1, by omega, by omega, by go_num, Lib.hid (fun j' h1 h2 => by
                  rcases Nat.lt_or_ge j' j with h | h
                  · exact HB.out j' h1 h
                  · obtain rfl : j' = j := by omega
                    exact HE.out), _, rfl⟩, by simp [intOf]; omega⟩
              · have HE := Lib.hid (show fauL m t k = [1, (i : Int), (j : Int)] from fauL_2 hij (by omega) H1.out HA.out HB.out (by simpa using hx))
                go_wp2_with fail
                go_quiet (fail)
                go_wp2
                go_ret
                exact FEnd.lit (n := 3) (W := w0.drewN (d + nq)) (ys := [1, (i : Int), (j : Int)]) HE.out (by simp) rfl (by omega) (by first | (simp; done) | (simp; omega) | omega) (by (repeat (first | exact Below.refl _ _ | (refine Below.setCell ?_ (by first | (simp; done) | (simp; omega) | omega) _) | (refine Below.alloc ?_ (by first | (simp; done) | (simp; omega) | omega) _) | (refine below_drewN ?_ _) | (refine Below.drew ?_) | (refine Below.trans ?_ (Below.mono B0 (by first | (simp; done) | (simp; omega) | omega))))))
            · have HE := Lib.hid (fun j' (h1 : i < j') (h2 : i + j' < k) => HB.out j' h1 (by omega))
              have j4 : ¬ (i : Int) + (j : Int) < (k : Int) := by omega
              go_wp2
              exact ⟨⟨i + 1, by omega, by go_num, Lib.hid (fun i' h1 j' h2 h3 => by
                rcases Nat.lt_or_ge i' i with h | h
                · exact HA.out i' h j' h2 h3
                · obtain rfl : i' = i := by omega
                  exact HE.out j' h2 h3), _, rfl⟩, by simp [intOf]; omega⟩
        · obtain rfl : i = k := by omega
          have H2 := Lib.hid (fun i' j' (h1 : i' < j') (h2 : i' + j' < i) => HA.out i' (by omega) j' h1 h2)
          clear HA
          obtain ⟨w1, hw1⟩ : ∃ w1, w1 = w0.drewN d := ⟨_, rfl⟩
          have hb : Below w0.heap.size w0 w1 := by rw [hw1]; exact (by (repeat (first | exact Below.refl _ _ | (refine Below.setCell ?_ (by first | (simp; done) | (simp; omega) | omega) _) | (refine Below.alloc ?_ (by first | (simp; done) | (simp; omega) | omega) _) | (refine below_drewN ?_ _) | (refine Below.drew ?_))))
          (have X1 := X0.below hb (Nat.le_refl _); have hu1 := hu0.below hb (Nat.le_refl _); have B1 := B0.trans (hb.mono B0.size))
          rw [← hw1]
          have B1s := B1.size
          have X1l := X1.lt
          clear x0 x1 hw1 hb
          go_wp2_with fail
          have OL := (OwLQ.lit0 w1 (w1.heap.size + 1)).below (w' := (w1.alloc (.cells #[] 22)).alloc (.cells #[] 22)) (by (repeat (first | exact Below.refl _ _ | (refine Below.setCell ?_ (by first | (simp; done) | (simp; omega) | omega) _) | (refine Below.alloc ?_ (by first | (simp; done) | (simp; omega) | omega) _) | (refine below_drewN ?_ _) | (refine Below.drew ?_))))
          have OR := OwLQ.lit0 (w1.alloc (.cells #[] 22)) w1.heap.size
          have hs1 : (w1.alloc (.cells #[] 22)).heap.size = w1.heap.size + 1 := by simp
          rw [hs1] at OR
          have OR := OR.mono (show w1.heap.size ≤ w1.heap.size + 1 by omega)
          have hb2 : Below w1.heap.size w1 ((w1.alloc (.cells #[] 22)).alloc (.cells #[] 22)) := (by (repeat (first | exact Below.refl _ _ | (refine Below.setCell ?_ (by first | (simp; done) | (simp; omega) | omega) _) | (refine Below.alloc ?_ (by first | (simp; done) | (simp; omega) | omega) _) | (refine below_drewN ?_ _) | (refine Below.drew ?_))))
          clear hs1
          generalize (w1.alloc (.cells #[] 22)).alloc (.cells #[] 22) = w2 at OL OR hb2 ⊢
          have hb2s := hb2.size
          go_loopw [9, 10, 11] (fun l r s wr => ∃ k gl cl gr cr : Nat, k ≤ i ∧ s = .int .i64 k ∧ l = .slice (some ⟨gl, 0, none⟩) k cl ∧ r = .slice (some ⟨gr, 0, none⟩) k cr ∧ gl ≠ gr ∧ OwLQ wr w1.heap.size gr gl k cl (lefL m i t k) ∧ OwLQ wr w1.heap.size gl gr k cr (rigL m i t k) ∧ Below w1.heap.size w1 wr) (fun _ _ s _ => i - (intOf s).toNat)
          case atStart => exact ⟨0, _, _, _, _, Nat.zero_le _, rfl, rfl, rfl, by omega, OL, OR, hb2⟩
          case round =>
            clear OL OR hb2 hb2s
            obtain ⟨k, gl, cl, gr, cr, hk, rfl, rfl, rfl, hne, OL, OR, hbr⟩ := hrel
            have hbrs := hbr.size
            have hLlt := OL.lt
            have hRlt := OR.lt
            by_cases hlt : k < i
            · have XR := X1.below hbr (Nat.le_refl _)
              have hur := hu1.below hbr (Nat.le_refl _)
              obtain ⟨y0, y1⟩ := id XR
              have k0 : (0 : Int) ≤ (k : Int) := by omega
              have k1 : (k : Int) < (i : Int) := by omega
              obtain ⟨r1, hr1, hl1, -⟩ := HT.out.row hlt
              have HR1 := Lib.hid hr1
              obtain ⟨p1, q1, cx, rx⟩ := hur.row hr1
              rw [hl1] at cx rx
              have HL1 := Lib.hid hl1
              clear hr1 hl1
              have HSL := Lib.hid (lefL_snoc m i t k)
              have HSR := Lib.hid (rigL_snoc m i t k)
              have HLL := Lib.hid (lefL_len m i t k)
              have HRL := Lib.hid (rigL_len m i t k)
              generalize lefL m i t k = lL at OL HSL HLL
              generalize rigL m i t k = lR at OR HSR HRL
              have lX := XR.lt
              have lcx := cell_lt cx
              go_wp2_with fail
              have hd0 : Below wr.heap.size wr wr.drew := (Below.refl _ _).drew
              have hsd0 := hd0.size
              have f0_a := keep_cell hd0 (Nat.le_refl _) y0
              refine wp_region_K (S := fun w' => w'.cell? ⟨w.heap.size, 0, none⟩ = some (.int .i64 m)) [0, 7, 8, 9, 10] (by kernel_rfl) ?_
              have hHeld : (fun w' : World => w'.cell? ⟨w.heap.size, 0, none⟩ = some (.int .i64 m)) wr.drew := by go_keep
              refine' wpAnyK_pureL (i := 0) (v := _) rfl (by kernel_rfl) (by kernel_rfl) (by kernel_rfl) (by kernel_rfl) (fun _ _ _ h => h) (Or.inl ⟨by rfl, ?yT1⟩) ?rT1
              case yT1 => (intro w' _; go_simp; try with_reducible rfl)
              try simp only [List.getElem_toArray, List.getElem_cons_zero, List.getElem_cons_succ, Act.put, List.setIfInBounds_toArray, List.set_cons_zero, List.set_cons_succ]
              refine' wpAnyK_takeL (i := 1) (v := _) rfl (by kernel_rfl) (by kernel_rfl) (by kernel_rfl) (by kernel_rfl) (fun _ _ _ h => h) (Or.inl ⟨by rfl, ?yT2⟩) hHeld ?rT2
              case yT2 => (intro w' hSw; (try dsimp only at hSw); go_simp; try with_reducible rfl)
              try simp only [List.getElem_toArray, List.getElem_cons_zero, List.getElem_cons_succ, Act.put, List.setIfInBounds_toArray, List.set_cons_zero, List.set_cons_succ]
              refine' wpAnyK_takeL (i := 2) (v := _) rfl (by kernel_rfl) (by kernel_rfl) (by kernel_rfl) (by kernel_rfl) (fun _ _ _ h => h) (Or.inl ⟨by rfl, ?yT3⟩) hHeld ?rT3
              case yT3 => (intro w' hSw; (try dsimp only at hSw); go_simp; try with_reducible rfl)
              try simp only [List.getElem_toArray, List.getElem_cons_zero, List.getElem_cons_succ, Act.put, List.setIfInBounds_toArray, List.set_cons_zero, List.set_cons_succ]
              refine' wpAnyK_takeL (i := 3) (v := _) rfl (by kernel_rfl) (by kernel_rfl) (by kernel_rfl) (by kernel_rfl) (fun _ _ _ h => h) (Or.inl ⟨by rfl, ?yT4⟩) hHeld ?rT4
              case yT4 => (intro w' hSw; (try dsimp only at hSw); go_simp; try with_reducible rfl)
              try simp only [List.getElem_toArray, List.getElem_cons_zero, List.getElem_cons_succ, Act.put, List.setIfInBounds_toArray, List.set_cons_zero, List.set_cons_succ]
              refine' wpAnyK_takeL (i := 4) (v := _) rfl (by kernel_rfl) (by kernel_rfl) (by kernel_rfl) (by kernel_rfl) (fun _ _ _ h => h) (Or.inl ⟨by rfl, ?yT5⟩) hHeld ?rT5
              case yT5 => (intro w' hSw; (try dsimp only at hSw); go_simp; try with_reducible rfl)
              try simp only [List.getElem_toArray, List.getElem_cons_zero, List.getElem_cons_succ, Act.put, List.setIfInBounds_toArray, List.set_cons_zero, List.set_cons_succ]
              refine' wpAnyK_takeL (i := 6) (v := _) rfl (by kernel_rfl) (by kernel_rfl) (by kernel_rfl) (by kernel_rfl) (fun _ _ _ h => h) (Or.inl ⟨by rfl, ?yT6⟩) hHeld ?rT6
              case yT6 => (intro w' hSw; (try dsimp only at hSw); go_simp; try with_reducible rfl)
              try simp only [List.getElem_toArray, List.getElem_cons_zero, List.getElem_cons_succ, Act.put, List.setIfInBounds_toArray, List.set_cons_zero, List.set_cons_succ]
              refine wpAnyK_oneL (i := 5) rfl (by kernel_rfl) (fun K hK => ?_)
              go_simp
              go_at_call 105
              refine (l04Column_c m i k _ t _ ((hur).below (by (repeat (first | exact Below.refl _ _ | (refine Below.setCell ?_ (by first | (simp; done) | (simp; omega) | omega) _) | (refine Below.alloc ?_ (by first | (simp; done) | (simp; omega) | omega) _) | (refine below_drewN ?_ _) | (refine Below.drew ?_)))) (Nat.le_refl _)) h1 hn (by omega) HT.out).mono ?_
              rintro e wd1 ⟨va, rfl, hod1, hbd1⟩
              obtain ⟨oa, ca, rfl⟩ := hod1.shapeN (n := i - k) (colT_len _ _ _)
              have hd1 : Below wr.heap.size wr wd1 := (by (repeat (first | exact Below.refl _ _ | (refine Below.setCell ?_ (by first | (simp; done) | (simp; omega) | omega) _) | (refine Below.alloc ?_ (by first | (simp; done) | (simp; omega) | omega) _) | (refine below_drewN ?_ _) | (refine Below.drew ?_) | (refine Below.trans ?_ (Below.mono hbd1 (by first | (simp; done) | (simp; omega) | omega))))))
              have hsd1 := hd1.size
              have f1_a := keep_cell hd1 (Nat.le_refl _) y0
              go_wp2_with fail
              clear hHeld
              have hHeld : (fun w' : World => w'.cell? ⟨w.heap.size, 0, none⟩ = some (.int .i64 m)) wd1 := by go_keep
              refine hK.out _ _ (fun _ => hHeld) ?_
              clear hK K
              try simp only [List.getElem_toArray, List.getElem_cons_zero, List.getElem_cons_succ, Act.put, List.setIfInBounds_toArray, List.set_cons_zero, List.set_cons_succ]
              refine wpAnyK_oneL (i := 7) rfl (by kernel_rfl) (fun K hK => ?_)
              go_simp
              go_at_call 104
              refine (l03After_c m i _ _ (colT t i k) t _ ((hod1.below (by (repeat (first | exact Below.refl _ _ | (refine Below.setCell ?_ (by first | (simp; done) | (simp; omega) | omega) _) | (refine Below.alloc ?_ (by first | (simp; done) | (simp; omega) | omega) _) | (refine below_drewN ?_ _) | (refine Below.drew ?_)))))).rd ((hur).below (by (repeat (first | exact Below.refl _ _ | (refine Below.setCell ?_ (by first | (simp; done) | (simp; omega) | omega) _) | (refine Below.alloc ?_ (by first | (simp; done) | (simp; omega) | omega) _) | (refine below_drewN ?_ _) | (refine Below.drew ?_) | (refine Below.trans ?_ (Below.mono hbd1 (by first | (simp; done) | (simp; omega) | omega)))))) (Nat.le_refl _)) h1 hn hm (by omega) (by rw [colT_len]; omega) (colT_range HT.out k) HT.out).mono ?_
              rintro e wd2 ⟨vb, rfl, hod2, hbd2⟩
              obtain ⟨ob, cb, rfl⟩ := hod2.shapeN (n := i) (hornT_len _ _ _ _)
              have hd2 : Below wr.heap.size wr wd2 := (by (repeat (first | exact Below.refl _ _ | (refine Below.setCell ?_ (by first | (simp; done) | (simp; omega) | omega) _) | (refine Below.alloc ?_ (by first | (simp; done) | (simp; omega) | omega) _) | (refine below_drewN ?_ _) | (refine Below.drew ?_) | (refine Below.trans ?_ (Below.mono hbd1 (by first | (simp; done) | (simp; omega) | omega))) | (refine Below.trans ?_ (Below.mono hbd2 (by first | (simp; done) | (simp; omega) | omega))))))
              have hsd2 := hd2.size
              have f2_a := keep_cell hd2 (Nat.le_refl _) y0
              go_wp2_with fail
              refine hK.out _ _ (fun h => absurd h (by decide)) ?_
              clear hK K
              try simp only [List.getElem_toArray, List.getElem_cons_zero, List.getElem_cons_succ, Act.put, List.setIfInBounds_toArray, List.set_cons_zero, List.set_cons_succ]
              refine wpAnyK_oneL (i := 8) rfl (by kernel_rfl) (fun K hK => ?_)
              go_simp
              (try go_wp2_with fail)
              refine hK.out _ _ (fun h => absurd h (by decide)) ?_
              clear hK K
              try simp only [List.getElem_toArray, List.getElem_cons_zero, List.getElem_cons_succ, Act.put, List.setIfInBounds_toArray, List.set_cons_zero, List.set_cons_succ]
              refine wpAnyK_oneL (i := 9) rfl (by kernel_rfl) (fun K hK => ?_)
              obtain ⟨W, hW⟩ : ∃ W : World, W = wd2.alloc (.cells #[.slice ob i cb] 22) := ⟨_, rfl⟩
              have hWb1 : Below wd2.heap.size wd2 W := (by rw [hW]; exact (by (repeat (first | exact Below.refl _ _ | (refine Below.setCell ?_ (by first | (simp; done) | (simp; omega) | omega) _) | (refine Below.alloc ?_ (by first | (simp; done) | (simp; omega) | omega) _) | (refine below_drewN ?_ _) | (refine Below.drew ?_)))))
              have hWb := hd2.trans (hWb1.mono hsd2)
              have hWz := hWb.size
              have hz12 := hbd2.size
              have hT := OL.below hWb
              have hU : Rds wd1.heap.size wd2.heap.size W (fun x => RdT x (.slice ob i cb) (hornT m i t (colT t i k))) := (OwS.rds hod2).below hWb1
              have hC0 : W.cell? ⟨wd2.heap.size, 0, none⟩ = some (.slice ob i cb) := (by rw [hW]; simp)
              rw [← hW]
              have HW := Lib.hid hW
              clear hW
              refine stLQ W rfl _ _ rfl w1.heap.size gr gl k cl lL rfl hT (by omega) _ (hornT m i t (colT t i k)) wd2.heap.size rfl hC0 rfl ⟨_, _, hU, .inl (by omega), .inl (by omega)⟩ (by rw [HLL.out]; omega) ?_
              intro g2 cap w5 hO5 hgr hb5 hg5
              have OR5 := (OR.below hWb).other hgr (fun e => hne e.symm) (hg5.imp id id)
              have B5 := hbr.trans (hWb.mono hbrs)
              have B6 := B5.trans (hb5.mono (by omega))
              have hne2 : g2 ≠ gr := (by rcases hg5 with h | h <;> omega)
              refine hK.out _ _ (fun h => absurd h (by decide)) ?_
              clear hK K
              try simp only [List.getElem_toArray, List.getElem_cons_zero, List.getElem_cons_succ, Act.put, List.setIfInBounds_toArray, List.set_cons_zero, List.set_cons_succ]
              refine wpAnyK_oneL (i := 10) rfl (by kernel_rfl) (fun K hK => ?_)
              go_simp
              (try go_wp2_with fail)
              refine hK.out _ _ (fun h => absurd h (by decide)) ?_
              clear hK K
              try simp only [List.getElem_toArray, List.getElem_cons_zero, List.getElem_cons_succ, Act.put, List.setIfInBounds_toArray, List.set_cons_zero, List.set_cons_succ]
              refine wpAnyK_done (by kernel_rfl) ?_ _
              go_wp2_with fail
              rw [← HSL.out] at hO5
              clear y0 y1 cx rx XR hur lX lcx
              have XR5 := X1.below B6 (Nat.le_refl _)
              have hu5 := hu1.below B6 (Nat.le_refl _)
              have B6s := B6.size
              have hg2 := hO5.lt
              have hgr5 := OR5.lt
              obtain ⟨z0, z1⟩ := id XR5
              obtain ⟨p5, q5, cx5, rx5⟩ := hu5.row HR1.out
              rw [HL1.out] at cx5 rx5
              have lX5 := XR5.lt
              have lcx5 := cell_lt cx5
              clear hd1 hd2
              go_wp2_with fail
              have hd0 : Below w5.heap.size w5 w5.drew := (Below.refl _ _).drew
              have hsd0 := hd0.size
              have f0_a := keep_cell hd0 (Nat.le_refl _) z0
              have f0_b := keep_cell hd0 (Nat.le_refl _) cx5
              refine wp_region_K (S := fun w' => w'.cell? ⟨w.heap.size, 0, none⟩ = some (.int .i64 m) ∧ w'.cell? ⟨bt, ft + k, none⟩ = some (.slice p5 (i - k) q5)) [0, 8, 9, 10, 11] (by kernel_rfl) ?_
              have hHeld : (fun w' : World => w'.cell? ⟨w.heap.size, 0, none⟩ = some (.int .i64 m) ∧ w'.cell? ⟨bt, ft + k, none⟩ = some (.slice p5 (i - k) q5)) w5.drew := by go_keep
              refine' wpAnyK_pureL (i := 0) (v := _) rfl (by kernel_rfl) (by kernel_rfl) (by kernel_rfl) (by kernel_rfl) (fun _ _ _ h => h) (Or.inl ⟨by rfl, ?yT7⟩) ?rT7
              case yT7 => (intro w' _; go_simp; try with_reducible rfl)
              try simp only [List.getElem_toArray, List.getElem_cons_zero, List.getElem_cons_succ, Act.put, List.setIfInBounds_toArray, List.set_cons_zero, List.set_cons_succ]
              refine' wpAnyK_takeL (i := 1) (v := _) rfl (by kernel_rfl) (by kernel_rfl) (by kernel_rfl) (by kernel_rfl) (fun _ _ _ h => h) (Or.inl ⟨by rfl, ?yT8⟩) hHeld ?rT8
              case yT8 => (intro w' hSw; (try dsimp only at hSw); go_simp; try with_reducible rfl)
              try simp only [List.getElem_toArray, List.getElem_cons_zero, List.getElem_cons_succ, Act.put, List.setIfInBounds_toArray, List.set_cons_zero, List.set_cons_succ]
              refine' wpAnyK_takeL (i := 2) (v := _) rfl (by kernel_rfl) (by kernel_rfl) (by kernel_rfl) (by kernel_rfl) (fun _ _ _ h => h) (Or.inl ⟨by rfl, ?yT9⟩) hHeld ?rT9
              case yT9 => (intro w' hSw; (try dsimp only at hSw); go_simp; try with_reducible rfl)
              try simp only [List.getElem_toArray, List.getElem_cons_zero, List.getElem_cons_succ, Act.put, List.setIfInBounds_toArray, List.set_cons_zero, List.set_cons_succ]
              refine' wpAnyK_takeL (i := 3) (v := _) rfl (by kernel_rfl) (by kernel_rfl) (by kernel_rfl) (by kernel_rfl) (fun _ _ _ h => h) (Or.inl ⟨by rfl, ?yT10⟩) hHeld ?rT10
              case yT10 => (intro w' hSw; (try dsimp only at hSw); go_simp; try with_reducible rfl)
              try simp only [List.getElem_toArray, List.getElem_cons_zero, List.getElem_cons_succ, Act.put, List.setIfInBounds_toArray, List.set_cons_zero, List.set_cons_succ]
              refine' wpAnyK_takeL (i := 4) (v := _) rfl (by kernel_rfl) (by kernel_rfl) (by kernel_rfl) (by kernel_rfl) (fun _ _ _ h => h) (Or.inl ⟨by rfl, ?yT11⟩) hHeld ?rT11
              case yT11 => (intro w' hSw; (try dsimp only at hSw); go_simp; try with_reducible rfl)
              try simp only [List.getElem_toArray, List.getElem_cons_zero, List.getElem_cons_succ, Act.put, List.setIfInBounds_toArray, List.set_cons_zero, List.set_cons_succ]
              refine' wpAnyK_takeL (i := 5) (v := _) rfl (by kernel_rfl) (by kernel_rfl) (by kernel_rfl) (by kernel_rfl) (fun _ _ _ h => h) (Or.inl ⟨by rfl, ?yT12⟩) hHeld ?rT12
              case yT12 => (intro w' hSw; (try dsimp only at hSw); go_simp; try with_reducible rfl)
              try simp only [List.getElem_toArray, List.getElem_cons_zero, List.getElem_cons_succ, Act.put, List.setIfInBounds_toArray, List.set_cons_zero, List.set_cons_succ]
              refine' wpAnyK_takeL (i := 6) (v := _) rfl (by kernel_rfl) (by kernel_rfl) (by kernel_rfl) (by kernel_rfl) (fun _ _ _ h => h) (Or.inl ⟨by rfl, ?yT13⟩) hHeld ?rT13
              case yT13 => (intro w' hSw; (try dsimp only at hSw); go_simp; try with_reducible rfl)
              try simp only [List.getElem_toArray, List.getElem_cons_zero, List.getElem_cons_succ, Act.put, List.setIfInBounds_toArray, List.set_cons_zero, List.set_cons_succ]
              refine' wpAnyK_takeL (i := 7) (v := _) rfl (by kernel_rfl) (by kernel_rfl) (by kernel_rfl) (by kernel_rfl) (fun _ _ _ h => h) (Or.inl ⟨by rfl, ?yT14⟩) hHeld ?rT14
              case yT14 => (intro w' hSw; (try dsimp only at hSw); go_simp; try with_reducible rfl)
              try simp only [List.getElem_toArray, List.getElem_cons_zero, List.getElem_cons_succ, Act.put, List.setIfInBounds_toArray, List.set_cons_zero, List.set_cons_succ]
              refine wpAnyK_oneL (i := 8) rfl (by kernel_rfl) (fun K hK => ?_)
              go_simp
              go_at_call 104
              refine (l03After_c m i _ _ r1 t _ ((rx5).below (by (repeat (first | exact Below.refl _ _ | (refine Below.setCell ?_ (by first | (simp; done) | (simp; omega) | omega) _) | (refine Below.alloc ?_ (by first | (simp; done) | (simp; omega) | omega) _) | (refine below_drewN ?_ _) | (refine Below.drew ?_)))) (Nat.le_refl _)) ((hu5).below (by (repeat (first | exact Below.refl _ _ | (refine Below.setCell ?_ (by first | (simp; done) | (simp; omega) | omega) _) | (refine Below.alloc ?_ (by first | (simp; done) | (simp; omega) | omega) _) | (refine below_drewN ?_ _) | (refine Below.drew ?_)))) (Nat.le_refl _)) h1 hn hm (by omega) (by rw [HL1.out]; omega) (HT.out.rowx HR1.out) HT.out).mono ?_
              rintro e wd1 ⟨vb, rfl, hod1, hbd1⟩
              obtain ⟨oe, ce, rfl⟩ := hod1.shapeN (n := i) (hornT_len _ _ _ _)
              have hd1 : Below w5.heap.size w5 wd1 := (by (repeat (first | exact Below.refl _ _ | (refine Below.setCell ?_ (by first | (simp; done) | (simp; omega) | omega) _) | (refine Below.alloc ?_ (by first | (simp; done) | (simp; omega) | omega) _) | (refine below_drewN ?_ _) | (refine Below.drew ?_) | (refine Below.trans ?_ (Below.mono hbd1 (by first | (simp; done) | (simp; omega) | omega))))))
              have hsd1 := hd1.size
              have f1_a := keep_cell hd1 (Nat.le_refl _) z0
              have f1_b := keep_cell hd1 (Nat.le_refl _) cx5
              go_wp2_with fail
              refine hK.out _ _ (fun h => absurd h (by decide)) ?_
              clear hK K
              try simp only [List.getElem_toArray, List.getElem_cons_zero, List.getElem_cons_succ, Act.put, List.setIfInBounds_toArray, List.set_cons_zero, List.set_cons_succ]
              refine wpAnyK_oneL (i := 9) rfl (by kernel_rfl) (fun K hK => ?_)
              go_simp
              (try go_wp2_with fail)
              refine hK.out _ _ (fun h => absurd h (by decide)) ?_
              clear hK K
              try simp only [List.getElem_toArray, List.getElem_cons_zero, List.getElem_cons_succ, Act.put, List.setIfInBounds_toArray, List.set_cons_zero, List.set_cons_succ]
              refine wpAnyK_oneL (i := 10) rfl (by kernel_rfl) (fun K hK => ?_)
              have hoe : OwS wd1 w5.heap.size (.slice oe i ce) (hornT m i t r1) := hod1
              obtain ⟨W, hW⟩ : ∃ W : World, W = wd1.alloc (.cells #[.slice oe i ce] 22) := ⟨_, rfl⟩
              have hWb1 : Below wd1.heap.size wd1 W := (by rw [hW]; exact (by (repeat (first | exact Below.refl _ _ | (refine Below.setCell ?_ (by first | (simp; done) | (simp; omega) | omega) _) | (refine Below.alloc ?_ (by first | (simp; done) | (simp; omega) | omega) _) | (refine below_drewN ?_ _) | (refine Below.drew ?_)))))
              have hWb := hd1.trans (hWb1.mono hsd1)
              have hWz := hWb.size
              have hT := OR5.below hWb
              have hU : Rds w5.heap.size wd1.heap.size W (fun x => RdT x (.slice oe i ce) (hornT m i t r1)) := (OwS.rds hoe).below hWb1
              have hC0 : W.cell? ⟨wd1.heap.size, 0, none⟩ = some (.slice oe i ce) := (by rw [hW]; simp)
              rw [← hW]
              have HW := Lib.hid hW
              clear hW
              refine stLQ W rfl _ _ rfl w1.heap.size g2 gr k cr lR rfl hT (by omega) _ (hornT m i t r1) wd1.heap.size rfl hC0 rfl ⟨_, _, hU, .inl (by omega), .inl (by omega)⟩ (by rw [HRL.out]; omega) ?_
              intro g3 cap3 w7 hO7 hgr7 hb7 hg7
              have OL7 := (hO5.below hWb).other hgr7 hne2 (hg7.imp id id)
              have B7 := (B6.trans (hWb.mono B6s)).trans (hb7.mono (by omega))
              have hne3 : g2 ≠ g3 := (by rcases hg7 with h | h <;> omega)
              refine hK.out _ _ (fun h => absurd h (by decide)) ?_
              clear hK K
              try simp only [List.getElem_toArray, List.getElem_cons_zero, List.getElem_cons_succ, Act.put, List.setIfInBounds_toArray, List.set_cons_zero, List.set_cons_succ]
              refine wpAnyK_oneL (i := 11) rfl (by kernel_rfl) (fun K hK => ?_)
              go_simp
              (try go_wp2_with fail)
              refine hK.out _ _ (fun h => absurd h (by decide)) ?_
              clear hK K
              try simp only [List.getElem_toArray, List.getElem_cons_zero, List.getElem_cons_succ, Act.put, List.setIfInBounds_toArray, List.set_cons_zero, List.set_cons_succ]
              refine wpAnyK_done (by kernel_rfl) ?_ _
              go_wp2_with fail
              rw [← getD_some HR1.out, ← HSR.out] at hO7
              go_wp2
              exact ⟨⟨k + 1, g2, cap, g3, cap3, by omega, by go_num, rfl, rfl, hne3, OL7, hO7, B7⟩, by simp [intOf]; omega⟩
            · obtain rfl : k = i := by omega
              have hLrd := OL.rd
              have hRrd := OR.rd
              have B2 := B1.trans (hbr.mono B1s)
              have B2s := B2.size
              clear OL OR hne hLlt hRlt X0 X1 hu0 hu1
              go_wp2_with fail
              go_loopw [12] (fun s w3 => ∃ a : Nat, a ≤ k ∧ s = .int .i64 a ∧ Hid (∀ a', a' < a → ∀ b c, a' + b + c < k → lefC m k t a' b c = rigC m k t a' b c) ∧ ∃ d, w3 = wr.drewN d) (fun s _ => k - (intOf s).toNat)
              case atStart => exact ⟨0, Nat.zero_le _, rfl, Lib.hid (fun j hj => by omega), 0, rfl⟩
              case round =>
                obtain ⟨a, ha, rfl, HA, d, rfl⟩ := hrel
                by_cases hlt : a < k
                · have a0 : (a : Int) < (k : Int) := by omega
                  go_wp2_with fail
                  go_loopw [13] (fun s w3 => ∃ b : Nat, b ≤ k - a ∧ s = .int .i64 b ∧ Hid (∀ b', b' < b → ∀ c, a + b' + c < k → lefC m k t a b' c = rigC m k t a b' c) ∧ ∃ d, w3 = wr.drewN d) (fun s _ => k - a - (intOf s).toNat)
                  case atStart => exact ⟨0, Nat.zero_le _, rfl, Lib.hid (fun j hj => by omega), d, rfl⟩
                  case round =>
                    obtain ⟨b, hb', rfl, HB, d, rfl⟩ := hrel
                    by_cases hlt : b < k - a
                    · have b0 : (a : Int) + (b : Int) < (k : Int) := by omega
                      go_wp2_with fail
                      go_loopw [14] (fun s w3 => ∃ c : Nat, c ≤ k - a - b ∧ s = .int .i64 c ∧ Hid (∀ c', c' < c → lefC m k t a b c' = rigC m k t a b c') ∧ ∃ d, w3 = wr.drewN d) (fun s _ => k - a - b - (intOf s).toNat)
                      case atStart => exact ⟨0, Nat.zero_le _, rfl, Lib.hid (fun j hj => by omega), d, rfl⟩
                      case round =>
                        obtain ⟨cc, hc', rfl, HC, d, rfl⟩ := hrel
                        by_cases hlt : cc < k - a - b
                        · have c0 : (a : Int) + (b : Int) + (cc : Int) < (k : Int) := by omega
                          have c1 : (0 : Int) ≤ (cc : Int) := by omega
                          have c2 : (cc : Int) < (k : Int) := by omega
                          have c3 : (0 : Int) ≤ (a : Int) := by omega
                          have c4 : (0 : Int) ≤ (b : Int) := by omega
                          have c5 : (a : Int) < (k : Int) := by omega
                          have c6 : (b : Int) < (k : Int) := by omega
                          have c7 : (b : Int) < ((k - a : Nat) : Int) := by omega
                          have c8 : (cc : Int) < ((k - b : Nat) : Int) := by omega
                          obtain ⟨o2, k2, y0, hT1⟩ := hLrd.at (lefL_get (show cc < k by omega))
                          obtain ⟨o3, k3, z0, hT2⟩ := hRrd.at (rigL_get (show a < k by omega))
                          rw [hornT_len] at y0 hT1 z0 hT2
                          rw [Nat.zero_add] at y0 z0
                          obtain ⟨b2, f2, rfl, -⟩ := hT1.rows (by rw [hornT_len]; omega)
                          obtain ⟨b3, f3, rfl, -⟩ := hT2.rows (by rw [hornT_len]; omega)
                          obtain ⟨r2, hr2, hl2, hj2⟩ := (hornT_ok (m := m) (by omega) k t (colT t k cc)).row (show a < k by omega)
                          obtain ⟨r3, hr3, hl3, hj3⟩ := (hornT_ok (m := m) (by omega) k t (t.getD a [])).row (show b < k by omega)
                          obtain ⟨p2, q2, cy, ry⟩ := hT1.row hr2
                          obtain ⟨p3, q3, cz, rz⟩ := hT2.row hr3
                          rw [hl2] at cy ry
                          rw [hl3] at cz rz
                          obtain ⟨b4, f4, rfl, -⟩ := ry.cells (by omega)
                          obtain ⟨b5, f5, rfl, -⟩ := rz.cells (by omega)
                          have ey := ry.cell0 (hj2 b (by omega))
                          have ez := rz.cell0 (hj3 cc (by omega))
                          have eL := left_eq (m := m) (n := k) (t := t) (a := a) (b := b) (c := cc) (by omega)
                          have eR := right_eq2 (m := m) HT.out (a := a) (b := b) (c := cc) (by omega)
                          rw [eL] at ey
                          rw [eR] at ez
                          clear hr2 hl2 hj2 hr3 hl3 hj3 eL eR
                          cases hx : (lefC m k t a b cc != rigC m k t a b cc)
                          · have HE := Lib.hid (show lefC m k t a b cc = rigC m k t a b cc by simpa using hx)
                            go_wp2_with fail
                            go_quiet (fail)
                            go_wp2
                            exact ⟨⟨cc + 1, by omega, by go_num, Lib.hid (fun c' h1 => by
                              rcases Nat.lt_or_ge c' cc with h | h
                              · exact HC.out c' h
                              · obtain rfl : c' = cc := by omega
                                exact HE.out), _, rfl⟩, by simp [intOf]; omega⟩
                          · have HE := Lib.hid (show fauL m t k = [2, (a : Int), (b : Int), (cc : Int)] from fauL_3 (by omega) H1.out H2.out HA.out HB.out HC.out (by simpa using hx))
                            go_wp2_with fail
                            go_quiet (fail)
                            go_wp2
                            go_ret
                            exact FEnd.lit (n := 4) (W := wr.drewN (d + nq)) (ys := [2, (a : Int), (b : Int), (cc : Int)]) HE.out (by simp) rfl (by omega) (by first | (simp; done) | (simp; omega) | omega) (by (repeat (first | exact Below.refl _ _ | (refine Below.setCell ?_ (by first | (simp; done) | (simp; omega) | omega) _) | (refine Below.alloc ?_ (by first | (simp; done) | (simp; omega) | omega) _) | (refine below_drewN ?_ _) | (refine Below.drew ?_) | (refine Below.trans ?_ (Below.mono B2 (by first | (simp; done) | (simp; omega) | omega))))))
                        · have c0 : ¬ (a : Int) + (b : Int) + (cc : Int) < (k : Int) := by omega
                          have HE := Lib.hid (fun c' (h2 : a + b + c' < k) => HC.out c' (by omega))
                          go_wp2
                          exact ⟨⟨b + 1, by omega, by go_num, Lib.hid (fun b' h1 c' h2 => by
                            rcases Nat.lt_or_ge b' b with h | h
                            · exact HB.out b' h c' h2
                            · obtain rfl : b' = b := by omega
                              exact HE.out c' h2), _, rfl⟩, by simp [intOf]; omega⟩
                    · have b0 : ¬ (a : Int) + (b : Int) < (k : Int) := by omega
                      have HE := Lib.hid (fun b' c' (h2 : a + b' + c' < k) => HB.out b' (by omega) c' h2)
                      go_wp2
                      exact ⟨⟨a + 1, by omega, by go_num, Lib.hid (fun a' h1 b' c' h2 => by
                        rcases Nat.lt_or_ge a' a with h | h
                        · exact HA.out a' h b' c' h2
                        · obtain rfl : a' = a := by omega
                          exact HE.out b' c' h2), _, rfl⟩, by simp [intOf]; omega⟩
                · obtain rfl : a = k := by omega
                  have HE := Lib.hid (show fauL m t a = [] from fauL_0 H1.out H2.out (fun a' b c h => HA.out a' (by omega) b c h))
                  go_wp2
                  go_ret
                  exact FEnd.nil HE.out (by (repeat (first | exact Below.refl _ _ | (refine Below.setCell ?_ (by first | (simp; done) | (simp; omega) | omega) _) | (refine Below.alloc ?_ (by first | (simp; done) | (simp; omega) | omega) _) | (refine below_drewN ?_ _) | (refine Below.drew ?_) | (refine Below.trans ?_ (Below.mono B2 (by first | (simp; done) | (simp; omega) | omega))))))
end Go.Proofs.Ytflebfmkgmhccaa
