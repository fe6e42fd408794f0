/- The first fault of a law: the program's function. -/
import Derived.Test.YtflebfmkgmhccaaDefO
set_option linter.unusedSimpArgs false
set_option linter.unusedVariables false
namespace Go.Proofs.Ytflebfmkgmhccaa
open Go.RowKit

theorem dueI_1 {k : Nat} (h : ((k : Int) == 1) = true) : dueI k = 1 := by
  have : (k : Int) = 1 := by simpa using h
  unfold dueI; rw [if_pos (by omega)]
theorem dueI_0 {k : Nat} (h : ((k : Int) == 1) = false) : dueI k = 0 := by
  have : ¬ (k : Int) = 1 := by simpa using h
  unfold dueI; rw [if_neg (by omega)]
/-- The answer: the fault in memory of the call's own, or no slice. -/
def FEnd (w w' : World) (l : List Int) (e : Ending) : Prop := ∃ v', e = .returned v' ∧ OwI w' w.heap.size v' l ∧ (l = [] → v' = .slice none 0 0) ∧ Below w.heap.size w w'
theorem FEnd.nil {w w' : World} {l : List Int} (h : l = []) (hb : Below w.heap.size w w') : FEnd w w' l (.returned (.slice none 0 0)) := ⟨_, rfl, by rw [h]; exact OwI.nil _ _, fun _ => rfl, hb⟩
theorem FEnd.lit {w W : World} {l : List Int} {ys : List Int} {n : Nat} (h : l = ys) (hne : ys ≠ []) (hl : ys.length = n) (hm : n ≤ 4) (hs : w.heap.size ≤ W.heap.size) (hb : Below w.heap.size w W) :
    FEnd w (W.alloc (.cells (ys.map (Value.int .i64)).toArray 2)) l (.returned (.slice (some ⟨W.heap.size, 0, none⟩) n n)) := by
  subst h hl
  exact ⟨_, rfl, (OwI.lit W l (by unfold maxLen; omega)).mono hs, fun h => absurd h hne, hb.alloc hs _⟩

set_option maxHeartbeats 4000000 in
set_option maxRecDepth 100000 in
theorem axioms_c (m : Int) (n : Nat) (v : Value) (t : List (List Int)) (w : World) (hv : RdT w v t) (h1 : 1 ≤ n) (hn : n ≤ 1000) (hm : 2 ≤ m) (hm' : m ≤ 10000) (ht : PlaT m n t) :
    Calls Try.prog 57 #[.agg #[.int .i64 m, v]] w fun e w' => FEnd w w' (fauL m t n) e := by
  obtain ⟨o, c, rfl, hmx, -⟩ := id hv
  have hu : RdT w (.slice o n c) t := by rw [ht.1] at hv; exact hv
  rw [ht.1] at hmx ⊢
  clear hv
  have hml := hmx.1
  unfold maxLen at hmx
  have HT := Lib.hid ht
  obtain ⟨bt, ft, rfl, -⟩ := hu.rows (by rw [ht.1]; omega)
  clear ht
  go_enter Try.func57, Try.ntmps57
  go_wp2_with fail
  (have X0 := ((RB2.mk1 w  (.int .i64 m) (.slice (some ⟨bt, ft, none⟩) n c) 29).1).below (w' := (w.alloc (.cells #[.int .i64 m, .slice (some ⟨bt, ft, none⟩) n c] 29))) (by (repeat (first | exact Below.refl _ _ | (refine Below.setCell ?_ (by first | (simp; done) | (simp; omega) | omega) _) | (refine Below.alloc ?_ (by first | (simp; done) | (simp; omega) | omega) _) | (refine below_drewN ?_ _) | (refine Below.drew ?_)))) (Nat.le_refl _); have B0 : Below w.heap.size w (w.alloc (.cells #[.int .i64 m, .slice (some ⟨bt, ft, none⟩) n c] 29)) := (by (repeat (first | exact Below.refl _ _ | (refine Below.setCell ?_ (by first | (simp; done) | (simp; omega) | omega) _) | (refine Below.alloc ?_ (by first | (simp; done) | (simp; omega) | omega) _) | (refine below_drewN ?_ _) | (refine Below.drew ?_)))); have hu0 := hu.below (w' := (w.alloc (.cells #[.int .i64 m, .slice (some ⟨bt, ft, none⟩) n c] 29))) (by (repeat (first | exact Below.refl _ _ | (refine Below.setCell ?_ (by first | (simp; done) | (simp; omega) | omega) _) | (refine Below.alloc ?_ (by first | (simp; done) | (simp; omega) | omega) _) | (refine below_drewN ?_ _) | (refine Below.drew ?_)))) (Nat.le_refl _); generalize w.alloc (.cells #[.int .i64 m, .slice (some ⟨bt, ft, none⟩) n c] 29) = w0 at X0 B0 hu0 ⊢)
  have B0s := B0.size
  obtain ⟨x0, x1⟩ := id X0
  go_wp2_with fail
  go_loopw [16] (fun s wr => ∃ k : Nat, k ≤ n ∧ s = .int .i64 k ∧ Hid (∀ j, j < k → atT t j 0 = dueI j) ∧ ∃ d, wr = w0.drewN d) (fun i _ => n - (intOf i).toNat)
  case atStart => exact ⟨0, Nat.zero_le _, rfl, Lib.hid (fun j hj => by omega), 0, rfl⟩
  case round =>
    obtain ⟨k, hk, rfl, HQ, d, rfl⟩ := hrel
    by_cases hlt : k < n
    · obtain ⟨r1, hr1, hl1, hj1⟩ := HT.out.row hlt
      obtain ⟨p1, q1, cx, rx⟩ := hu0.row hr1
      rw [hl1] at cx rx
      obtain ⟨b1, f1, rfl, -⟩ := rx.cells (by omega)
      have ex := rx.cell0 (hj1 0 (by omega))
      rw [Nat.add_zero] at ex
      clear hr1 hl1 hj1
      have i0 : (0 : Int) ≤ (k : Int) := by omega
      have i1 : (k : Int) < (n : Int) := by omega
      have i2 : (0 : Int) < ((n - k : Nat) : Int) := by omega
      have i3 : 0 < n - k := by omega
      cases hk1 : ((k : Int) == 1)
      · cases hx : (atT t k 0 != 0)
        · have HE := Lib.hid (show atT t k 0 = dueI k by rw [dueI_0 hk1]; simpa using hx)
          go_wp2
          exact ⟨⟨k + 1, by omega, by go_num, Lib.hid (fun j hj => by
            rcases Nat.lt_or_ge j k with h | h
            · exact HQ.out j h
            · obtain rfl : j = k := by omega
              exact HE.out), _, rfl⟩, by simp [intOf]; omega⟩
        · have HE := Lib.hid (show fauL m t n = [0, (k : Int)] from fauL_1 hlt HQ.out (by rw [dueI_0 hk1]; simpa using hx))
          go_wp2
          go_ret
          exact FEnd.lit (n := 2) (W := w0.drewN d) (ys := [0, (k : Int)]) HE.out (by simp) rfl (by omega) (by first | (simp; done) | (simp; omega) | omega) (by (repeat (first | exact Below.refl _ _ | (refine Below.setCell ?_ (by first | (simp; done) | (simp; omega) | omega) _) | (refine Below.alloc ?_ (by first | (simp; done) | (simp; omega) | omega) _) | (refine below_drewN ?_ _) | (refine Below.drew ?_) | (refine Below.trans ?_ (Below.mono B0 (by first | (simp; done) | (simp; omega) | omega))))))
      · cases hx : (atT t k 0 != 1)
        · have HE := Lib.hid (show atT t k 0 = dueI k by rw [dueI_1 hk1]; simpa using hx)
          go_wp2
          exact ⟨⟨k + 1, by omega, by go_num, Lib.hid (fun j hj => by
            rcases Nat.lt_or_ge j k with h | h
            · exact HQ.out j h
            · obtain rfl : j = k := by omega
              exact HE.out), _, rfl⟩, by simp [intOf]; omega⟩
        · have HE := Lib.hid (show fauL m t n = [0, (k : Int)] from fauL_1 hlt HQ.out (by rw [dueI_1 hk1]; simpa using hx))
          go_wp2
          go_ret
          exact FEnd.lit (n := 2) (W := w0.drewN d) (ys := [0, (k : Int)]) HE.out (by simp) rfl (by omega) (by first | (simp; done) | (simp; omega) | omega) (by (repeat (first | exact Below.refl _ _ | (refine Below.setCell ?_ (by first | (simp; done) | (simp; omega) | omega) _) | (refine Below.alloc ?_ (by first | (simp; done) | (simp; omega) | omega) _) | (refine below_drewN ?_ _) | (refine Below.drew ?_) | (refine Below.trans ?_ (Below.mono B0 (by first | (simp; done) | (simp; omega) | omega))))))
    · obtain rfl : k = n := by omega
      have H1 := HQ
      clear HQ
      go_wp2_with fail
      go_loopw [36] (fun s wr => ∃ i : Nat, i ≤ k ∧ s = .int .i64 i ∧ Hid (∀ i', i' < i → ∀ j', i' < j' → i' + j' < k → atT t i' j' = atT t j' i') ∧ ∃ d, wr = w0.drewN d) (fun i _ => k - (intOf i).toNat)
      case atStart => exact ⟨0, Nat.zero_le _, rfl, Lib.hid (fun j hj => by omega), d, rfl⟩
      case round =>
        obtain ⟨i, hi, rfl, HA, d, rfl⟩ := hrel
        by_cases hlt : i < k
        · obtain ⟨r1, hr1, hl1, hj1⟩ := HT.out.row hlt
          obtain ⟨p1, q1, cx, rx⟩ := hu0.row hr1
          rw [hl1] at cx rx
          obtain ⟨b1, f1, rfl, -⟩ := rx.cells (by omega)
          have HJ := Lib.hid hj1
          clear hr1 hl1 hj1
          have i0 : (0 : Int) ≤ (i : Int) := by omega
          have i1 : (i : Int) < (k : Int) := by omega
          go_wp2_with fail
          go_loopw [7] (fun s wr => ∃ j : Nat, i < j ∧ (j ≤ k - i ∨ j = i + 1) ∧ s = .int .i64 j ∧ Hid (∀ j', i < j' → j' < j → atT t i j' = atT t j' i) ∧ ∃ d, wr = w0.drewN d) (fun i' _ => k - i - (intOf i').toNat)
          case atStart => exact ⟨i + 1, by omega, .inr rfl, by go_num, Lib.hid (fun j hj h => by omega), d, rfl⟩
          case round =>
            obtain ⟨j, hij, hj, rfl, HB, d, rfl⟩ := hrel
            by_cases hjl : j < k - i
            · have ex := rx.cell0 (HJ.out j hjl)
              obtain ⟨r2, hr2, hl2, hj2⟩ := HT.out.row (show j < k by omega)
              obtain ⟨p2, q2, cy, ry⟩ := hu0.row hr2
              rw [hl2] at cy ry
              obtain ⟨b2, f2, rfl, -⟩ := ry.cells (by omega)
              have ey := ry.cell0 (hj2 i (by omega))
              clear hr2 hl2 hj2
              have j0 : (0 : Int) ≤ (j : Int) := by omega
              have j1 : (j : Int) < ((k - i : Nat) : Int) := by omega
              have j2 : (j : Int) < (k : Int) := by omega
              have j3 : (i : Int) < ((k - j : Nat) : Int) := by omega
              cases hx : (atT t i j != atT t j i)
              · have HE := Lib.hid (show atT t i j = atT t j i by simpa using hx)
                go_wp2_with fail
                go_quiet (fail)
                go_wp2
                exact ⟨⟨j + 1, by omega, by omega, by go_num, Lib.hid (fun j' h1 h2 => by
                  rcases Nat.lt_or_ge j' j with h | h
                  · exact HB.out j' h1 h
                  · obtain rfl : j' = j := by omega
                    exact HE.out), _, rfl⟩, by simp [intOf]; omega⟩
              · have HE := Lib.hid (show fauL m t k = [1, (i : Int), (j : Int)] from fauL_2 hij (by omega) H1.out HA.out HB.out (by simpa using hx))
                go_wp2_with fail
                go_quiet (fail)
                go_wp2
                go_ret
                exact FEnd.lit (n := 3) (W := w0.drewN (d + nq)) (ys := [1, (i : Int), (j : Int)]) HE.out (by simp) rfl (by omega) (by first | (simp; done) | (simp; omega) | omega) (by (repeat (first | exact Below.refl _ _ | (refine Below.setCell ?_ (by first | (simp; done) | (simp; omega) | omega) _) | (refine Below.alloc ?_ (by first | (simp; done) | (simp; omega) | omega) _) | (refine below_drewN ?_ _) | (refine Below.drew ?_) | (refine Below.trans ?_ (Below.mono B0 (by first | (simp; done) | (simp; omega) | omega))))))
            · have HE := Lib.hid (fun j' (h1 : i < j') (h2 : i + j' < k) => HB.out j' h1 (by omega))
              have j1 : ¬ (j : Int) < ((k - i : Nat) : Int) := by omega
              go_wp2
              exact ⟨⟨i + 1, by omega, by go_num, Lib.hid (fun i' h1 j' h2 h3 => by
                rcases Nat.lt_or_ge i' i with h | h
                · exact HA.out i' h j' h2 h3
                · obtain rfl : i' = i := by omega
                  exact HE.out j' h2 h3), _, rfl⟩, by simp [intOf]; omega⟩
        · obtain rfl : i = k := by omega
          have H2 := Lib.hid (fun i' j' (h1 : i' < j') (h2 : i' + j' < i) => HA.out i' (by omega) j' h1 h2)
          clear HA
          obtain ⟨w1, hw1⟩ : ∃ w1, w1 = w0.drewN d := ⟨_, rfl⟩
          have hb : Below w0.heap.size w0 w1 := by rw [hw1]; exact (by (repeat (first | exact Below.refl _ _ | (refine Below.setCell ?_ (by first | (simp; done) | (simp; omega) | omega) _) | (refine Below.alloc ?_ (by first | (simp; done) | (simp; omega) | omega) _) | (refine below_drewN ?_ _) | (refine Below.drew ?_))))
          (have X1 := X0.below hb (Nat.le_refl _); have hu1 := hu0.below hb (Nat.le_refl _); have B1 := B0.trans (hb.mono B0.size))
          rw [← hw1]
          clear x0 x1 hw1 hb
          obtain ⟨x0, x1⟩ := id X1
          go_wp2_with fail
          refine (defectsOf_c m i _ t _ hu1 h1 hn hm (by omega) HT.out).mono ?_
          rintro e w2 ⟨bd, bf, bp, o', op, k', kp, rfl, hcd, hXf, hvv, hcp, hR, hb⟩
          (have X2 := X1.below hb (Nat.le_refl _); have hu2 := hu1.below hb (Nat.le_refl _); have B2 := B1.trans (hb.mono B1.size))
          obtain ⟨rfl, -, rfl⟩ := Value.slice.inj hvv
          clear hvv x0 x1
          obtain ⟨x0, x1⟩ := id X2
          go_wp2_with fail
          refine (degreeP_c m _ i c _ hml).mono ?_
          rintro e w3 ⟨rfl, hb⟩
          have hcd3 := keep_cell hb (Nat.le_refl _) hcd
          have hXf3 := hXf.below hb (Nat.le_refl _)
          have hcp3 := keep_cell hb (Nat.le_refl _) hcp
          have hR3 := hR.below hb (Nat.le_refl _)
          (have X3 := X2.below hb (Nat.le_refl _); have hu3 := hu2.below hb (Nat.le_refl _); have B3 := B2.trans (hb.mono B2.size))
          have B3s := B3.size
          clear x0 x1 hcd hXf hcp hR
          have hG := defects1_callable
          unfold Callable at hG
          go_wp2_with fail
          go_loopw [10] (fun s wr => ∃ a : Nat, a ≤ i ∧ s = .int .i64 a ∧ Hid (∀ a', a' < a → ∀ b c, a' + b + c < i → lefC m i t a' b c = rigC m i t a' b c) ∧ ∃ d, wr = w3.drewN d) (fun s _ => i - (intOf s).toNat)
          case atStart => exact ⟨0, Nat.zero_le _, rfl, Lib.hid (fun j hj => by omega), 0, rfl⟩
          case round =>
            obtain ⟨a, ha, rfl, HA, d, rfl⟩ := hrel
            by_cases hlt : a < i
            · have a0 : (a : Int) ≤ (i : Int) - 1 := by omega
              go_wp2_with fail
              go_loopw [11] (fun s wr => ∃ b : Nat, b ≤ i - a ∧ s = .int .i64 b ∧ Hid (∀ b', b' < b → ∀ c, a + b' + c < i → lefC m i t a b' c = rigC m i t a b' c) ∧ ∃ d, wr = w3.drewN d) (fun s _ => i - a - (intOf s).toNat)
              case atStart => exact ⟨0, Nat.zero_le _, rfl, Lib.hid (fun j hj => by omega), d, rfl⟩
              case round =>
                obtain ⟨b, hb', rfl, HB, d, rfl⟩ := hrel
                by_cases hlt : b < i - a
                · have b0 : (a : Int) + (b : Int) ≤ (i : Int) - 1 := by omega
                  go_wp2_with fail
                  go_loopw [12] (fun s wr => ∃ c : Nat, c ≤ i - a - b ∧ s = .int .i64 c ∧ Hid (∀ c', c' < c → lefC m i t a b c' = rigC m i t a b c') ∧ ∃ d, wr = w3.drewN d) (fun s _ => i - a - b - (intOf s).toNat)
                  case atStart => exact ⟨0, Nat.zero_le _, rfl, Lib.hid (fun j hj => by omega), d, rfl⟩
                  case round =>
                    obtain ⟨cc, hc', rfl, HC, d, rfl⟩ := hrel
                    by_cases hlt : cc < i - a - b
                    · have c0 : (a : Int) + (b : Int) + (cc : Int) ≤ (i : Int) - 1 := by omega
                      have hbd : Below w3.heap.size w3 (w3.drewN d) := (by (repeat (first | exact Below.refl _ _ | (refine Below.setCell ?_ (by first | (simp; done) | (simp; omega) | omega) _) | (refine Below.alloc ?_ (by first | (simp; done) | (simp; omega) | omega) _) | (refine below_drewN ?_ _) | (refine Below.drew ?_))))
                      have HD := Lib.hid (defects1_c m i t bd bf bp _ op c kp a b cc (w3.drewN d) (keep_cell hbd (Nat.le_refl _) hcd3) (hXf3.below hbd (Nat.le_refl _)) (hu3.below hbd (Nat.le_refl _)) (keep_cell hbd (Nat.le_refl _) hcp3) (hR3.below hbd (Nat.le_refl _)) h1 hn hm hm' HT.out (by omega))
                      cases hx : (defC m i t a b cc != 0)
                      · have HE := Lib.hid (defC_1 hx)
                        go_wp2_with fail
                        refine HD.out.mono ?_
                        rintro e w' ⟨rfl, d', rfl⟩
                        go_wp2
                        exact ⟨⟨cc + 1, by omega, by go_num, Lib.hid (fun c' h1 => by
                          rcases Nat.lt_or_ge c' cc with h | h
                          · exact HC.out c' h
                          · obtain rfl : c' = cc := by omega
                            exact HE.out), _, rfl⟩, by simp [intOf]; omega⟩
                      · have HE := Lib.hid (show fauL m t i = [2, (a : Int), (b : Int), (cc : Int)] from fauL_3 (by omega) H1.out H2.out HA.out HB.out HC.out (defC_0.1 hx))
                        go_wp2_with fail
                        refine HD.out.mono ?_
                        rintro e w' ⟨rfl, d', rfl⟩
                        go_wp2
                        go_ret
                        exact FEnd.lit (n := 4) (W := w3.drewN (d + d')) (ys := [2, (a : Int), (b : Int), (cc : Int)]) HE.out (by simp) rfl (by omega) (by first | (simp; done) | (simp; omega) | omega) (by (repeat (first | exact Below.refl _ _ | (refine Below.setCell ?_ (by first | (simp; done) | (simp; omega) | omega) _) | (refine Below.alloc ?_ (by first | (simp; done) | (simp; omega) | omega) _) | (refine below_drewN ?_ _) | (refine Below.drew ?_) | (refine Below.trans ?_ (Below.mono B3 (by first | (simp; done) | (simp; omega) | omega))))))
                    · have c0 : ¬ (a : Int) + (b : Int) + (cc : Int) ≤ (i : Int) - 1 := by omega
                      have HE := Lib.hid (fun c' (h2 : a + b + c' < i) => HC.out c' (by omega))
                      go_wp2
                      exact ⟨⟨b + 1, by omega, by go_num, Lib.hid (fun b' h1 c' h2 => by
                        rcases Nat.lt_or_ge b' b with h | h
                        · exact HB.out b' h c' h2
                        · obtain rfl : b' = b := by omega
                          exact HE.out c' h2), _, rfl⟩, by simp [intOf]; omega⟩
                · have b0 : ¬ (a : Int) + (b : Int) ≤ (i : Int) - 1 := by omega
                  have HE := Lib.hid (fun b' c' (h2 : a + b' + c' < i) => HB.out b' (by omega) c' h2)
                  go_wp2
                  exact ⟨⟨a + 1, by omega, by go_num, Lib.hid (fun a' h1 b' c' h2 => by
                    rcases Nat.lt_or_ge a' a with h | h
                    · exact HA.out a' h b' c' h2
                    · obtain rfl : a' = a := by omega
                      exact HE.out b' c' h2), _, rfl⟩, by simp [intOf]; omega⟩
            · obtain rfl : a = i := by omega
              have a0 : ¬ (a : Int) ≤ (a : Int) - 1 := by omega
              have HE := Lib.hid (show fauL m t a = [] from fauL_0 H1.out H2.out (fun a' b c h => HA.out a' (by omega) b c h))
              go_wp2
              go_ret
              exact FEnd.nil HE.out (by (repeat (first | exact Below.refl _ _ | (refine Below.setCell ?_ (by first | (simp; done) | (simp; omega) | omega) _) | (refine Below.alloc ?_ (by first | (simp; done) | (simp; omega) | omega) _) | (refine below_drewN ?_ _) | (refine Below.drew ?_) | (refine Below.trans ?_ (Below.mono B3 (by first | (simp; done) | (simp; omega) | omega))))))
end Go.Proofs.Ytflebfmkgmhccaa
