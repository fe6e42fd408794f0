/- Lemmas of WittS. -/
import Derived.Test.YtcjinlfgeljmkaaWSWittR
import Derived.Test.YtcjinlfgeljmkaaWSG1
set_option linter.unusedSimpArgs false
set_option linter.unusedVariables false
namespace Go.Proofs.Ytcjinlfgeljmkaa
open Go.RowKit

theorem invE_bound {p n : Nat} (hp : P4 p) (hn : n ≤ 4) : invE p n ≤ 1000000 := by
  have h1 : p - 1 ≤ 6 := by rcases hp with rfl | rfl | rfl | rfl <;> decide
  have h2 : p ^ (n - 1) ≤ 2401 := hp.npow (by omega)
  have := Nat.mul_le_mul h1 h2
  unfold invE; omega
theorem invE_cast {p n : Nat} (hp : P4 p) : ((p : Int) - 1) * (p : Int) ^ (n - 1) = ((invE p n : Nat) : Int) + 1 := by
  have h1 : 1 ≤ p - 1 := by rcases hp with rfl | rfl | rfl | rfl <;> decide
  have h2 : 1 ≤ p ^ (n - 1) := Nat.pos_of_ne_zero (by have := pow_pos' hp.bounds.1 (n - 1); intro h; rw [show (p : Int) ^ (n - 1) = ((p ^ (n - 1) : Nat) : Int) by push_cast; rfl, h] at this; simp at this)
  have h3 : 1 ≤ (p - 1) * p ^ (n - 1) := Nat.mul_le_mul h1 h2
  have h4 : ((p : Int) - 1) = ((p - 1 : Nat) : Int) := by omega
  unfold invE
  rw [h4, show (p : Int) ^ (n - 1) = ((p ^ (n - 1) : Nat) : Int) by push_cast; rfl, ← Int.natCast_mul]
  omega

set_option maxHeartbeats 4000000 in
set_option maxRecDepth 100000 in
theorem sInverseOfWitt_c (p m : Int) (v : Value) (xs : List Int) (w : World) (hv : RdI w v xs) :
    Calls Try.prog 96 #[.agg #[.int .i64 p, .int .i64 m, v]] w fun x w' => WEnd w w' (invR p m xs) x := by
  obtain ⟨o, c, rfl, hmx, hh⟩ := id hv
  clear hh
  have hml := hmx.1
  unfold maxLen at hmx
  cases hs : wittB p m xs
  · have hR : invR p m xs = WR.bad 1 := by simp [invR, hs]
    rw [hR]
    go_enter Try.func96, Try.ntmps96
    go_wp2_with fail
    (have X0 := (Box3.mk' w (.int .i64 p) (.int .i64 m) (.slice o xs.length c) 59).below (w' := (w.alloc (.cells #[.int .i64 p, .int .i64 m, .slice o xs.length c] 59)).alloc (.cells #[.int .i64 0, .int .i64 0, .slice none 0 0] 59)) (by (repeat (first | exact Below.refl _ _ | (refine Below.setCell ?_ (by first | (simp; done) | (simp; omega) | omega) _) | (refine Below.alloc ?_ (by first | (simp; done) | (simp; omega) | omega) _) | (refine below_drewN ?_ _) | (refine Below.drew ?_)))) (Nat.le_refl _); have R0 := RB3.mk2 w (.cells #[.int .i64 p, .int .i64 m, .slice o xs.length c] 59) (.int .i64 0) (.int .i64 0) (.slice none 0 0) 59; have B0 : Below w.heap.size w ((w.alloc (.cells #[.int .i64 p, .int .i64 m, .slice o xs.length c] 59)).alloc (.cells #[.int .i64 0, .int .i64 0, .slice none 0 0] 59)) := (by (repeat (first | exact Below.refl _ _ | (refine Below.setCell ?_ (by first | (simp; done) | (simp; omega) | omega) _) | (refine Below.alloc ?_ (by first | (simp; done) | (simp; omega) | omega) _) | (refine below_drewN ?_ _) | (refine Below.drew ?_)))); have hv0 := hv.below (w' := (w.alloc (.cells #[.int .i64 p, .int .i64 m, .slice o xs.length c] 59)).alloc (.cells #[.int .i64 0, .int .i64 0, .slice none 0 0] 59)) (by (repeat (first | exact Below.refl _ _ | (refine Below.setCell ?_ (by first | (simp; done) | (simp; omega) | omega) _) | (refine Below.alloc ?_ (by first | (simp; done) | (simp; omega) | omega) _) | (refine below_drewN ?_ _) | (refine Below.drew ?_)))) (Nat.le_refl _); generalize (w.alloc (.cells #[.int .i64 p, .int .i64 m, .slice o xs.length c] 59)).alloc (.cells #[.int .i64 0, .int .i64 0, .slice none 0 0] 59) = w0 at X0 R0 B0 hv0 ⊢)
    refine (l13Is_c p m _ xs _ hv0).mono ?_
    rw [hs]
    rintro e w1 ⟨rfl, hb⟩
    (have R1 := R0.below hb (Nat.le_refl _); have B1 := B0.trans (hb.mono B0.size))
    obtain ⟨⟨r0, r1, r2⟩, rf⟩ := id R1
    go_wp2
    exact bodyPost_ret (v := .tuple #[.agg #[.int .i64 0, .int .i64 0, .slice none 0 0], .int .i64 1]) (by simp [results, Try.results96, go_sem, r0, r1, r2]) rfl ⟨_, rfl, OwI.nil _ _, (by (repeat (first | exact Below.refl _ _ | (refine Below.setCell ?_ (by first | (simp; done) | (simp; omega) | omega) _) | (refine Below.alloc ?_ (by first | (simp; done) | (simp; omega) | omega) _) | (refine below_drewN ?_ _) | (refine Below.drew ?_) | (refine Below.trans ?_ (Below.mono B1 (by first | (simp; done) | (simp; omega) | omega)))))), by simp [WR.bad]⟩
  · have hn := witt_len hs
    have hm := witt_m hs
    have hx := witt_x hs
    cases hmp : (m != p)
    · have hmp' : m = p := by simpa using hmp
      subst hmp'
      obtain ⟨bx, fx, rfl, -⟩ := hv.cells hn.1
      cases hx0 : (at0 xs 0 == 0)
      · have hR : invR m m xs = ⟨m, m, powWL m.toNat m xs (invE m.toNat xs.length), 0⟩ := by simp [invR, invB, hs, hx0]
        rw [hR]
        clear hR
        obtain ⟨hp, hpe⟩ := witt_P4 hs
        generalize m.toNat = k at hp hpe ⊢
        subst hpe
        have hpb := hp.bounds
        have hpp := hp.pow3 (show xs.length - 1 ≤ 4 by omega)
        have hpn := hp.pow3 (show xs.length ≤ 4 by omega)
        have hx00 := hx _ (mem_at0 (show 0 < xs.length by omega))
        have Hop : Hid ((powWL k k xs (invE k xs.length)).length = xs.length) := Lib.hid (powWL_len _ _ _ _)
        have hlen : (powWL k k xs (invE k xs.length)).length ≤ 1048576 := by rw [Hop.out]; omega
        have HI := Lib.hid (inv_res hp hn.1 (xs := xs) (by rw [Int.emod_eq_of_lt hx00.1 hx00.2]; simpa using hx0))
        have hie := invE_bound hp hn.2
        have hic := invE_cast (n := xs.length) hp
        have i0 : (0 : Int) < (xs.length : Int) := by omega
        go_enter Try.func96, Try.ntmps96
        go_wp2_with fail
        (have X0 := (Box3.mk' w (.int .i64 k) (.int .i64 k) (.slice (some ⟨bx, fx, none⟩) xs.length c) 59).below (w' := (w.alloc (.cells #[.int .i64 k, .int .i64 k, .slice (some ⟨bx, fx, none⟩) xs.length c] 59)).alloc (.cells #[.int .i64 0, .int .i64 0, .slice none 0 0] 59)) (by (repeat (first | exact Below.refl _ _ | (refine Below.setCell ?_ (by first | (simp; done) | (simp; omega) | omega) _) | (refine Below.alloc ?_ (by first | (simp; done) | (simp; omega) | omega) _) | (refine below_drewN ?_ _) | (refine Below.drew ?_)))) (Nat.le_refl _); have R0 := RB3.mk2 w (.cells #[.int .i64 k, .int .i64 k, .slice (some ⟨bx, fx, none⟩) xs.length c] 59) (.int .i64 0) (.int .i64 0) (.slice none 0 0) 59; have B0 : Below w.heap.size w ((w.alloc (.cells #[.int .i64 k, .int .i64 k, .slice (some ⟨bx, fx, none⟩) xs.length c] 59)).alloc (.cells #[.int .i64 0, .int .i64 0, .slice none 0 0] 59)) := (by (repeat (first | exact Below.refl _ _ | (refine Below.setCell ?_ (by first | (simp; done) | (simp; omega) | omega) _) | (refine Below.alloc ?_ (by first | (simp; done) | (simp; omega) | omega) _) | (refine below_drewN ?_ _) | (refine Below.drew ?_)))); have hv0 := hv.below (w' := (w.alloc (.cells #[.int .i64 k, .int .i64 k, .slice (some ⟨bx, fx, none⟩) xs.length c] 59)).alloc (.cells #[.int .i64 0, .int .i64 0, .slice none 0 0] 59)) (by (repeat (first | exact Below.refl _ _ | (refine Below.setCell ?_ (by first | (simp; done) | (simp; omega) | omega) _) | (refine Below.alloc ?_ (by first | (simp; done) | (simp; omega) | omega) _) | (refine below_drewN ?_ _) | (refine Below.drew ?_)))) (Nat.le_refl _); generalize (w.alloc (.cells #[.int .i64 k, .int .i64 k, .slice (some ⟨bx, fx, none⟩) xs.length c] 59)).alloc (.cells #[.int .i64 0, .int .i64 0, .slice none 0 0] 59) = w0 at X0 R0 B0 hv0 ⊢)
        refine (l13Is_c k k _ xs _ hv0).mono ?_
        rw [hs]
        rintro e w1 ⟨rfl, hb⟩
        (have X1 := X0.below hb (Nat.le_refl _); have R1 := R0.below hb (Nat.le_refl _); have hv1 := hv0.below hb (Nat.le_refl _); have B1 := B0.trans (hb.mono B0.size))
        obtain ⟨k0, k1, k2⟩ := id X1
        have cx := hv1.cell0 (some_at0 (show 0 < xs.length by omega))
        rw [Nat.add_zero] at cx
        go_wp2_with fail
        have e0 : ((xs.length : Int) - 1).toNat = xs.length - 1 := by omega
        have e1 : IntKind.i64.wrap ((xs.length : Int) - 1) = (xs.length : Int) - 1 := IntWalk.i64_in _ (by omega)
        have e2 : IntKind.i64.wrap (((invE k xs.length : Nat) : Int) + 1) = ((invE k xs.length : Nat) : Int) + 1 := IntWalk.i64_in _ (by omega)
        have e3 : IntKind.i64.wrap ((k : Int) - 1) = (k : Int) - 1 := IntWalk.i64_in _ (by omega)
        go_quiet ((go_at_call 195; (first | exact quietA (rfl) (l13Raise_c _ _ (xs.length - 1) _ (by omega) (by omega) (by omega) (by omega)) | exact quietB (rfl) (l13Raise_c _ _ (xs.length - 1) _ (by omega) (by omega) (by omega) (by omega)) | exact quietC (rfl) (l13Raise_c _ _ (xs.length - 1) _ (by omega) (by omega) (by omega) (by omega)) | exact quietD (rfl) (l13Raise_c _ _ (xs.length - 1) _ (by omega) (by omega) (by omega) (by omega)))))
        clear e0 e1 e2 e3 k0 k1 k2 cx
        have hbd : Below w1.heap.size w1 (w1.drewN nq) := below_drewN (Below.refl _ _) _
        (have X2 := X1.below hbd (Nat.le_refl _); have R2 := R1.below hbd (Nat.le_refl _); have hv2 := hv1.below hbd (Nat.le_refl _); have B2 := B1.trans (hbd.mono B1.size))
        generalize w1.drewN nq = w2 at X2 R2 hv2 B2 ⊢
        clear hbd
        obtain ⟨k0, k1, k2⟩ := id X2
        go_wp2_with fail
        refine (l13Times_c k k _ xs (invE k xs.length) xs.length _ hp hv2 rfl (by omega) (by omega) (by omega) (by omega) (fun x h => by have := hx x h; omega) (by omega)).mono ?_
        rintro e w3 ⟨v3, rfl, how, hb3⟩
        obtain ⟨o3, c3, rfl⟩ := how.shapeN (n := xs.length) Hop.out
        have hz := R2.1.lt
        have hB2 := B2.size
        (have R3 := R2.below hb3 (Nat.le_refl _); have B3 := B2.trans (hb3.mono B2.size))
        obtain ⟨⟨r0, r1, r2⟩, rf⟩ := id R3
        go_wp2
        refine bodyPost_ret (v := .tuple #[.agg #[.int .i64 k, .int .i64 k, .slice o3 xs.length c3], .int .i64 0]) (by simp [results, Try.results96, go_sem, r0, r1, r2]) rfl ⟨_, rfl, ?_, ?_, hlen⟩
        · exact ((((how.low hz _).low hz _).low hz _)).mono hB2
        · (repeat (first | exact Below.refl _ _ | (refine Below.setCell ?_ (by first | (simp; done) | (simp; omega) | omega) _) | (refine Below.alloc ?_ (by first | (simp; done) | (simp; omega) | omega) _) | (refine below_drewN ?_ _) | (refine Below.drew ?_) | (refine Below.trans ?_ (Below.mono B3 (by first | (simp; done) | (simp; omega) | omega)))))
      · have hR : invR m m xs = WR.bad 5 := by simp [invR, invB, hs, hx0]
        rw [hR]
        clear hR
        have i0 : (0 : Int) < (xs.length : Int) := by omega
        go_enter Try.func96, Try.ntmps96
        go_wp2_with fail
        (have X0 := (Box3.mk' w (.int .i64 m) (.int .i64 m) (.slice (some ⟨bx, fx, none⟩) xs.length c) 59).below (w' := (w.alloc (.cells #[.int .i64 m, .int .i64 m, .slice (some ⟨bx, fx, none⟩) xs.length c] 59)).alloc (.cells #[.int .i64 0, .int .i64 0, .slice none 0 0] 59)) (by (repeat (first | exact Below.refl _ _ | (refine Below.setCell ?_ (by first | (simp; done) | (simp; omega) | omega) _) | (refine Below.alloc ?_ (by first | (simp; done) | (simp; omega) | omega) _) | (refine below_drewN ?_ _) | (refine Below.drew ?_)))) (Nat.le_refl _); have R0 := RB3.mk2 w (.cells #[.int .i64 m, .int .i64 m, .slice (some ⟨bx, fx, none⟩) xs.length c] 59) (.int .i64 0) (.int .i64 0) (.slice none 0 0) 59; have B0 : Below w.heap.size w ((w.alloc (.cells #[.int .i64 m, .int .i64 m, .slice (some ⟨bx, fx, none⟩) xs.length c] 59)).alloc (.cells #[.int .i64 0, .int .i64 0, .slice none 0 0] 59)) := (by (repeat (first | exact Below.refl _ _ | (refine Below.setCell ?_ (by first | (simp; done) | (simp; omega) | omega) _) | (refine Below.alloc ?_ (by first | (simp; done) | (simp; omega) | omega) _) | (refine below_drewN ?_ _) | (refine Below.drew ?_)))); have hv0 := hv.below (w' := (w.alloc (.cells #[.int .i64 m, .int .i64 m, .slice (some ⟨bx, fx, none⟩) xs.length c] 59)).alloc (.cells #[.int .i64 0, .int .i64 0, .slice none 0 0] 59)) (by (repeat (first | exact Below.refl _ _ | (refine Below.setCell ?_ (by first | (simp; done) | (simp; omega) | omega) _) | (refine Below.alloc ?_ (by first | (simp; done) | (simp; omega) | omega) _) | (refine below_drewN ?_ _) | (refine Below.drew ?_)))) (Nat.le_refl _); generalize (w.alloc (.cells #[.int .i64 m, .int .i64 m, .slice (some ⟨bx, fx, none⟩) xs.length c] 59)).alloc (.cells #[.int .i64 0, .int .i64 0, .slice none 0 0] 59) = w0 at X0 R0 B0 hv0 ⊢)
        refine (l13Is_c m m _ xs _ hv0).mono ?_
        rw [hs]
        rintro e w1 ⟨rfl, hb⟩
        (have X1 := X0.below hb (Nat.le_refl _); have R1 := R0.below hb (Nat.le_refl _); have hv1 := hv0.below hb (Nat.le_refl _); have B1 := B0.trans (hb.mono B0.size))
        obtain ⟨k0, k1, k2⟩ := id X1
        obtain ⟨⟨r0, r1, r2⟩, rf⟩ := id R1
        have cx := hv1.cell0 (some_at0 (show 0 < xs.length by omega))
        rw [Nat.add_zero] at cx
        go_wp2
        exact bodyPost_ret (v := .tuple #[.agg #[.int .i64 0, .int .i64 0, .slice none 0 0], .int .i64 5]) (by simp [results, Try.results96, go_sem, r0, r1, r2]) rfl ⟨_, rfl, OwI.nil _ _, (by (repeat (first | exact Below.refl _ _ | (refine Below.setCell ?_ (by first | (simp; done) | (simp; omega) | omega) _) | (refine Below.alloc ?_ (by first | (simp; done) | (simp; omega) | omega) _) | (refine below_drewN ?_ _) | (refine Below.drew ?_) | (refine Below.trans ?_ (Below.mono B1 (by first | (simp; done) | (simp; omega) | omega)))))), by simp [WR.bad]⟩
    · have hR : invR p m xs = WR.bad 5 := by
        have : (m == p) = false := by simpa using hmp
        simp [invR, invB, hs, this]
      rw [hR]
      clear hR
      go_enter Try.func96, Try.ntmps96
      go_wp2_with fail
      (have X0 := (Box3.mk' w (.int .i64 p) (.int .i64 m) (.slice o xs.length c) 59).below (w' := (w.alloc (.cells #[.int .i64 p, .int .i64 m, .slice o xs.length c] 59)).alloc (.cells #[.int .i64 0, .int .i64 0, .slice none 0 0] 59)) (by (repeat (first | exact Below.refl _ _ | (refine Below.setCell ?_ (by first | (simp; done) | (simp; omega) | omega) _) | (refine Below.alloc ?_ (by first | (simp; done) | (simp; omega) | omega) _) | (refine below_drewN ?_ _) | (refine Below.drew ?_)))) (Nat.le_refl _); have R0 := RB3.mk2 w (.cells #[.int .i64 p, .int .i64 m, .slice o xs.length c] 59) (.int .i64 0) (.int .i64 0) (.slice none 0 0) 59; have B0 : Below w.heap.size w ((w.alloc (.cells #[.int .i64 p, .int .i64 m, .slice o xs.length c] 59)).alloc (.cells #[.int .i64 0, .int .i64 0, .slice none 0 0] 59)) := (by (repeat (first | exact Below.refl _ _ | (refine Below.setCell ?_ (by first | (simp; done) | (simp; omega) | omega) _) | (refine Below.alloc ?_ (by first | (simp; done) | (simp; omega) | omega) _) | (refine below_drewN ?_ _) | (refine Below.drew ?_)))); have hv0 := hv.below (w' := (w.alloc (.cells #[.int .i64 p, .int .i64 m, .slice o xs.length c] 59)).alloc (.cells #[.int .i64 0, .int .i64 0, .slice none 0 0] 59)) (by (repeat (first | exact Below.refl _ _ | (refine Below.setCell ?_ (by first | (simp; done) | (simp; omega) | omega) _) | (refine Below.alloc ?_ (by first | (simp; done) | (simp; omega) | omega) _) | (refine below_drewN ?_ _) | (refine Below.drew ?_)))) (Nat.le_refl _); generalize (w.alloc (.cells #[.int .i64 p, .int .i64 m, .slice o xs.length c] 59)).alloc (.cells #[.int .i64 0, .int .i64 0, .slice none 0 0] 59) = w0 at X0 R0 B0 hv0 ⊢)
      refine (l13Is_c p m _ xs _ hv0).mono ?_
      rw [hs]
      rintro e w1 ⟨rfl, hb⟩
      (have X1 := X0.below hb (Nat.le_refl _); have R1 := R0.below hb (Nat.le_refl _); have B1 := B0.trans (hb.mono B0.size))
      obtain ⟨k0, k1, k2⟩ := id X1
      obtain ⟨⟨r0, r1, r2⟩, rf⟩ := id R1
      go_wp2
      exact bodyPost_ret (v := .tuple #[.agg #[.int .i64 0, .int .i64 0, .slice none 0 0], .int .i64 5]) (by simp [results, Try.results96, go_sem, r0, r1, r2]) rfl ⟨_, rfl, OwI.nil _ _, (by (repeat (first | exact Below.refl _ _ | (refine Below.setCell ?_ (by first | (simp; done) | (simp; omega) | omega) _) | (refine Below.alloc ?_ (by first | (simp; done) | (simp; omega) | omega) _) | (refine below_drewN ?_ _) | (refine Below.drew ?_) | (refine Below.trans ?_ (Below.mono B1 (by first | (simp; done) | (simp; omega) | omega)))))), by simp [WR.bad]⟩

set_option maxHeartbeats 4000000 in
set_option maxRecDepth 100000 in
theorem InverseOfWitt_c (p m : Int) (v : Value) (xs : List Int) (w : World) (hv : RdI w v xs) :
    Calls Try.prog 95 #[.agg #[.int .i64 p, .int .i64 m, v]] w fun x w' => WEnd w w' (invR p m xs) x := by
  obtain ⟨o, c, rfl, hmx, hh⟩ := id hv
  clear hh
  have hml := hmx.1
  unfold maxLen at hmx
  cases hs : wittB p m xs
  · have hR : invR p m xs = WR.bad 1 := by simp [invR, hs]
    rw [hR]
    go_enter Try.func95, Try.ntmps95
    go_wp2_with fail
    (have X0 := (Box3.mk' w (.int .i64 p) (.int .i64 m) (.slice o xs.length c) 59).below (w' := (w.alloc (.cells #[.int .i64 p, .int .i64 m, .slice o xs.length c] 59)).alloc (.cells #[.int .i64 0, .int .i64 0, .slice none 0 0] 59)) (by (repeat (first | exact Below.refl _ _ | (refine Below.setCell ?_ (by first | (simp; done) | (simp; omega) | omega) _) | (refine Below.alloc ?_ (by first | (simp; done) | (simp; omega) | omega) _) | (refine below_drewN ?_ _) | (refine Below.drew ?_)))) (Nat.le_refl _); have R0 := RB3.mk2 w (.cells #[.int .i64 p, .int .i64 m, .slice o xs.length c] 59) (.int .i64 0) (.int .i64 0) (.slice none 0 0) 59; have B0 : Below w.heap.size w ((w.alloc (.cells #[.int .i64 p, .int .i64 m, .slice o xs.length c] 59)).alloc (.cells #[.int .i64 0, .int .i64 0, .slice none 0 0] 59)) := (by (repeat (first | exact Below.refl _ _ | (refine Below.setCell ?_ (by first | (simp; done) | (simp; omega) | omega) _) | (refine Below.alloc ?_ (by first | (simp; done) | (simp; omega) | omega) _) | (refine below_drewN ?_ _) | (refine Below.drew ?_)))); have hv0 := hv.below (w' := (w.alloc (.cells #[.int .i64 p, .int .i64 m, .slice o xs.length c] 59)).alloc (.cells #[.int .i64 0, .int .i64 0, .slice none 0 0] 59)) (by (repeat (first | exact Below.refl _ _ | (refine Below.setCell ?_ (by first | (simp; done) | (simp; omega) | omega) _) | (refine Below.alloc ?_ (by first | (simp; done) | (simp; omega) | omega) _) | (refine below_drewN ?_ _) | (refine Below.drew ?_)))) (Nat.le_refl _); generalize (w.alloc (.cells #[.int .i64 p, .int .i64 m, .slice o xs.length c] 59)).alloc (.cells #[.int .i64 0, .int .i64 0, .slice none 0 0] 59) = w0 at X0 R0 B0 hv0 ⊢)
    refine (IsWitt_c p m _ xs _ hv0).mono ?_
    rw [hs]
    rintro e w1 ⟨rfl, hb⟩
    (have R1 := R0.below hb (Nat.le_refl _); have B1 := B0.trans (hb.mono B0.size))
    obtain ⟨⟨r0, r1, r2⟩, rf⟩ := id R1
    go_wp2
    exact bodyPost_ret (v := .tuple #[.agg #[.int .i64 0, .int .i64 0, .slice none 0 0], .int .i64 1]) (by simp [results, Try.results95, go_sem, r0, r1, r2]) rfl ⟨_, rfl, OwI.nil _ _, (by (repeat (first | exact Below.refl _ _ | (refine Below.setCell ?_ (by first | (simp; done) | (simp; omega) | omega) _) | (refine Below.alloc ?_ (by first | (simp; done) | (simp; omega) | omega) _) | (refine below_drewN ?_ _) | (refine Below.drew ?_) | (refine Below.trans ?_ (Below.mono B1 (by first | (simp; done) | (simp; omega) | omega)))))), by simp [WR.bad]⟩
  · have hn := witt_len hs
    have hm := witt_m hs
    have hx := witt_x hs
    cases hmp : (m != p)
    · have hmp' : m = p := by simpa using hmp
      subst hmp'
      obtain ⟨bx, fx, rfl, -⟩ := hv.cells hn.1
      cases hx0 : (at0 xs 0 == 0)
      · have hR : invR m m xs = ⟨m, m, powWL m.toNat m xs (invE m.toNat xs.length), 0⟩ := by simp [invR, invB, hs, hx0]
        rw [hR]
        clear hR
        obtain ⟨hp, hpe⟩ := witt_P4 hs
        generalize m.toNat = k at hp hpe ⊢
        subst hpe
        have hpb := hp.bounds
        have hpp := hp.pow3 (show xs.length - 1 ≤ 4 by omega)
        have hpn := hp.pow3 (show xs.length ≤ 4 by omega)
        have hx00 := hx _ (mem_at0 (show 0 < xs.length by omega))
        have Hop : Hid ((powWL k k xs (invE k xs.length)).length = xs.length) := Lib.hid (powWL_len _ _ _ _)
        have hlen : (powWL k k xs (invE k xs.length)).length ≤ 1048576 := by rw [Hop.out]; omega
        have HI := Lib.hid (inv_res hp hn.1 (xs := xs) (by rw [Int.emod_eq_of_lt hx00.1 hx00.2]; simpa using hx0))
        have hie := invE_bound hp hn.2
        have hic := invE_cast (n := xs.length) hp
        have i0 : (0 : Int) < (xs.length : Int) := by omega
        go_enter Try.func95, Try.ntmps95
        go_wp2_with fail
        (have X0 := (Box3.mk' w (.int .i64 k) (.int .i64 k) (.slice (some ⟨bx, fx, none⟩) xs.length c) 59).below (w' := (w.alloc (.cells #[.int .i64 k, .int .i64 k, .slice (some ⟨bx, fx, none⟩) xs.length c] 59)).alloc (.cells #[.int .i64 0, .int .i64 0, .slice none 0 0] 59)) (by (repeat (first | exact Below.refl _ _ | (refine Below.setCell ?_ (by first | (simp; done) | (simp; omega) | omega) _) | (refine Below.alloc ?_ (by first | (simp; done) | (simp; omega) | omega) _) | (refine below_drewN ?_ _) | (refine Below.drew ?_)))) (Nat.le_refl _); have R0 := RB3.mk2 w (.cells #[.int .i64 k, .int .i64 k, .slice (some ⟨bx, fx, none⟩) xs.length c] 59) (.int .i64 0) (.int .i64 0) (.slice none 0 0) 59; have B0 : Below w.heap.size w ((w.alloc (.cells #[.int .i64 k, .int .i64 k, .slice (some ⟨bx, fx, none⟩) xs.length c] 59)).alloc (.cells #[.int .i64 0, .int .i64 0, .slice none 0 0] 59)) := (by (repeat (first | exact Below.refl _ _ | (refine Below.setCell ?_ (by first | (simp; done) | (simp; omega) | omega) _) | (refine Below.alloc ?_ (by first | (simp; done) | (simp; omega) | omega) _) | (refine below_drewN ?_ _) | (refine Below.drew ?_)))); have hv0 := hv.below (w' := (w.alloc (.cells #[.int .i64 k, .int .i64 k, .slice (some ⟨bx, fx, none⟩) xs.length c] 59)).alloc (.cells #[.int .i64 0, .int .i64 0, .slice none 0 0] 59)) (by (repeat (first | exact Below.refl _ _ | (refine Below.setCell ?_ (by first | (simp; done) | (simp; omega) | omega) _) | (refine Below.alloc ?_ (by first | (simp; done) | (simp; omega) | omega) _) | (refine below_drewN ?_ _) | (refine Below.drew ?_)))) (Nat.le_refl _); generalize (w.alloc (.cells #[.int .i64 k, .int .i64 k, .slice (some ⟨bx, fx, none⟩) xs.length c] 59)).alloc (.cells #[.int .i64 0, .int .i64 0, .slice none 0 0] 59) = w0 at X0 R0 B0 hv0 ⊢)
        refine (IsWitt_c k k _ xs _ hv0).mono ?_
        rw [hs]
        rintro e w1 ⟨rfl, hb⟩
        (have X1 := X0.below hb (Nat.le_refl _); have R1 := R0.below hb (Nat.le_refl _); have hv1 := hv0.below hb (Nat.le_refl _); have B1 := B0.trans (hb.mono B0.size))
        obtain ⟨k0, k1, k2⟩ := id X1
        have cx := hv1.cell0 (some_at0 (show 0 < xs.length by omega))
        rw [Nat.add_zero] at cx
        go_wp2_with fail
        clear cx k0 k1 k2
        have hP2 : 2 ≤ (k : Int) ^ xs.length := by
          have h1 := pow_le hpb.1 (show 1 ≤ xs.length by omega)
          rw [pow1] at h1
          have : 2 ≤ (k : Int) := by rcases hp with rfl | rfl | rfl | rfl <;> decide
          omega
        have hGm := mod_lt' (a := gh k (at0 xs) (xs.length - 1)) (show 0 < (k : Int) ^ xs.length by omega)
        have hIm := invM_range (show 0 < (k : Int) ^ xs.length by omega) (gh k (at0 xs) (xs.length - 1) % (k : Int) ^ xs.length)
        have hd0 : Below w1.heap.size w1 w1.drew := (Below.refl _ _).drew
        have hsd0 := hd0.size
        have hlb_R1 := R1.1.lt
        obtain ⟨⟨q0_R1_0, q0_R1_1, q0_R1_2⟩, qf0_R1⟩ := R1.below (Below.refl w1.heap.size w1) (Nat.le_refl _)
        obtain ⟨q0_X1_0, q0_X1_1, q0_X1_2⟩ := X1.below (Below.refl w1.heap.size w1) (Nat.le_refl _)
        refine wp_region_S (S := fun w' => w'.cell? ⟨(w.heap.size + 1) , 0, none⟩ = some (.int .i64 0) ∧ w'.cell? ⟨(w.heap.size + 1) , 1, none⟩ = some (.int .i64 0) ∧ w'.cell? ⟨(w.heap.size + 1) , 2, none⟩ = some (.slice none 0 0) ∧ w'.cell? ⟨w.heap.size, 0, none⟩ = some (.int .i64 k) ∧ w'.cell? ⟨w.heap.size, 1, none⟩ = some (.int .i64 k) ∧ w'.cell? ⟨w.heap.size, 2, none⟩ = some (.slice (some ⟨bx, fx, none⟩) xs.length c)) 11 (by kernel_rfl) ?_
        have hHeld : (fun w' : World => w'.cell? ⟨(w.heap.size + 1) , 0, none⟩ = some (.int .i64 0) ∧ w'.cell? ⟨(w.heap.size + 1) , 1, none⟩ = some (.int .i64 0) ∧ w'.cell? ⟨(w.heap.size + 1) , 2, none⟩ = some (.slice none 0 0) ∧ w'.cell? ⟨w.heap.size, 0, none⟩ = some (.int .i64 k) ∧ w'.cell? ⟨w.heap.size, 1, none⟩ = some (.int .i64 k) ∧ w'.cell? ⟨w.heap.size, 2, none⟩ = some (.slice (some ⟨bx, fx, none⟩) xs.length c)) w1.drew := by go_keep
        refine' wpAnyS_takeL (i := 0) (v := _) rfl (by kernel_rfl) (by kernel_rfl) (by kernel_rfl) (by kernel_rfl) (fun _ _ _ h => h) (Or.inl ⟨by rfl, ?yT1⟩) hHeld ?rT1
        case yT1 => (intro w' hSw; (try dsimp only at hSw); go_simp; try with_reducible rfl)
        try simp only [List.getElem_toArray, List.getElem_cons_zero, List.getElem_cons_succ, Act.put, List.setIfInBounds_toArray, List.set_cons_zero, List.set_cons_succ]
        refine' wpAnyS_takeL (i := 1) (v := _) rfl (by kernel_rfl) (by kernel_rfl) (by kernel_rfl) (by kernel_rfl) (fun _ _ _ h => h) (Or.inl ⟨by rfl, ?yT2⟩) hHeld ?rT2
        case yT2 => (intro w' hSw; (try dsimp only at hSw); go_simp; try with_reducible rfl)
        try simp only [List.getElem_toArray, List.getElem_cons_zero, List.getElem_cons_succ, Act.put, List.setIfInBounds_toArray, List.set_cons_zero, List.set_cons_succ]
        refine' wpAnyS_takeL (i := 2) (v := _) rfl (by kernel_rfl) (by kernel_rfl) (by kernel_rfl) (by kernel_rfl) (fun _ _ _ h => h) (Or.inl ⟨by rfl, ?yT3⟩) hHeld ?rT3
        case yT3 => (intro w' hSw; (try dsimp only at hSw); go_simp; try with_reducible rfl)
        try simp only [List.getElem_toArray, List.getElem_cons_zero, List.getElem_cons_succ, Act.put, List.setIfInBounds_toArray, List.set_cons_zero, List.set_cons_succ]
        refine' wpAnyS_takeL (i := 3) (v := _) rfl (by kernel_rfl) (by kernel_rfl) (by kernel_rfl) (by kernel_rfl) (fun _ _ _ h => h) (Or.inl ⟨by rfl, ?yT4⟩) hHeld ?rT4
        case yT4 => (intro w' hSw; (try dsimp only at hSw); go_simp; try with_reducible rfl)
        try simp only [List.getElem_toArray, List.getElem_cons_zero, List.getElem_cons_succ, Act.put, List.setIfInBounds_toArray, List.set_cons_zero, List.set_cons_succ]
        refine' wpAnyS_takeL (i := 4) (v := _) rfl (by kernel_rfl) (by kernel_rfl) (by kernel_rfl) (by kernel_rfl) (fun _ _ _ h => h) (Or.inl ⟨by rfl, ?yT5⟩) hHeld ?rT5
        case yT5 => (intro w' hSw; (try dsimp only at hSw); go_simp; try with_reducible rfl)
        try simp only [List.getElem_toArray, List.getElem_cons_zero, List.getElem_cons_succ, Act.put, List.setIfInBounds_toArray, List.set_cons_zero, List.set_cons_succ]
        refine' wpAnyS_takeL (i := 5) (v := _) rfl (by kernel_rfl) (by kernel_rfl) (by kernel_rfl) (by kernel_rfl) (fun _ _ _ h => h) (Or.inl ⟨by rfl, ?yT6⟩) hHeld ?rT6
        case yT6 => (intro w' hSw; (try dsimp only at hSw); go_simp; try with_reducible rfl)
        try simp only [List.getElem_toArray, List.getElem_cons_zero, List.getElem_cons_succ, Act.put, List.setIfInBounds_toArray, List.set_cons_zero, List.set_cons_succ]
        refine' wpAnyS_takeL (i := 7) (v := _) rfl (by kernel_rfl) (by kernel_rfl) (by kernel_rfl) (by kernel_rfl) (fun _ _ _ h => h) (Or.inl ⟨by rfl, ?yT7⟩) hHeld ?rT7
        case yT7 => (intro w' hSw; (try dsimp only at hSw); go_simp; try with_reducible rfl)
        try simp only [List.getElem_toArray, List.getElem_cons_zero, List.getElem_cons_succ, Act.put, List.setIfInBounds_toArray, List.set_cons_zero, List.set_cons_succ]
        refine wpAnyS_oneL (i := 6) rfl (by kernel_rfl) (fun K hK => ?_)
        go_simp
        go_at_call 193
        refine (scale_c _ _ xs.length _ (by omega) (by omega) (by omega) (by omega)).mono ?_
        rintro e w' ⟨rfl, rfl⟩
        go_wp2_with fail
        refine hK.out _ _ (fun _ => hHeld) ?_
        clear hK K
        try simp only [List.getElem_toArray, List.getElem_cons_zero, List.getElem_cons_succ, Act.put, List.setIfInBounds_toArray, List.set_cons_zero, List.set_cons_succ]
        refine wpAnyS_oneL (i := 8) rfl (by kernel_rfl) (fun K hK => ?_)
        go_simp
        go_at_call 191
        refine (residue_c k k _ xs _ hp ((hv1).below (by (repeat (first | exact Below.refl _ _ | (refine Below.setCell ?_ (by first | (simp; done) | (simp; omega) | omega) _) | (refine Below.alloc ?_ (by first | (simp; done) | (simp; omega) | omega) _) | (refine below_drewN ?_ _) | (refine Below.drew ?_)))) (Nat.le_refl _)) (by omega) (by omega) (fun x h => by have := hx x h; omega)).mono ?_
        rintro e wd1 ⟨rfl, hbd1⟩
        have hd1 : Below w1.heap.size w1 wd1 := (by (repeat (first | exact Below.refl _ _ | (refine Below.setCell ?_ (by first | (simp; done) | (simp; omega) | omega) _) | (refine Below.alloc ?_ (by first | (simp; done) | (simp; omega) | omega) _) | (refine below_drewN ?_ _) | (refine Below.drew ?_) | (refine Below.trans ?_ (Below.mono hbd1 (by first | (simp; done) | (simp; omega) | omega))))))
        have hsd1 := hd1.size
        obtain ⟨⟨q1_R1_0, q1_R1_1, q1_R1_2⟩, qf1_R1⟩ := R1.below hd1 (Nat.le_refl _)
        obtain ⟨q1_X1_0, q1_X1_1, q1_X1_2⟩ := X1.below hd1 (Nat.le_refl _)
        go_wp2_with fail
        clear hHeld
        have hHeld : (fun w' : World => w'.cell? ⟨(w.heap.size + 1) , 0, none⟩ = some (.int .i64 0) ∧ w'.cell? ⟨(w.heap.size + 1) , 1, none⟩ = some (.int .i64 0) ∧ w'.cell? ⟨(w.heap.size + 1) , 2, none⟩ = some (.slice none 0 0) ∧ w'.cell? ⟨w.heap.size, 0, none⟩ = some (.int .i64 k) ∧ w'.cell? ⟨w.heap.size, 1, none⟩ = some (.int .i64 k) ∧ w'.cell? ⟨w.heap.size, 2, none⟩ = some (.slice (some ⟨bx, fx, none⟩) xs.length c)) wd1 := by go_keep
        refine hK.out _ _ (fun _ => hHeld) ?_
        clear hK K
        try simp only [List.getElem_toArray, List.getElem_cons_zero, List.getElem_cons_succ, Act.put, List.setIfInBounds_toArray, List.set_cons_zero, List.set_cons_succ]
        refine wpAnyS_oneL (i := 9) rfl (by kernel_rfl) (fun K hK => ?_)
        go_simp
        go_at_call 200
        refine (inverse_c _ _ _ (by omega) (by omega) (by omega) (by omega)).mono ?_
        rintro e w' ⟨rfl, rfl⟩
        go_wp2_with fail
        refine hK.out _ _ (fun _ => hHeld) ?_
        clear hK K
        try simp only [List.getElem_toArray, List.getElem_cons_zero, List.getElem_cons_succ, Act.put, List.setIfInBounds_toArray, List.set_cons_zero, List.set_cons_succ]
        refine wpAnyS_oneL (i := 10) rfl (by kernel_rfl) (fun K hK => ?_)
        go_simp
        go_at_call 194
        refine (ofResidue_c k xs.length _ _ hp (by omega) (by omega) (by omega) (by omega)).mono ?_
        rintro e wd2 ⟨va2, rfl, hod2, hbd2⟩
        rw [HI.out] at hod2; obtain ⟨oa, ca, rfl⟩ := hod2.shapeN (n := xs.length) Hop.out
        have hd2 : Below w1.heap.size w1 wd2 := (by (repeat (first | exact Below.refl _ _ | (refine Below.setCell ?_ (by first | (simp; done) | (simp; omega) | omega) _) | (refine Below.alloc ?_ (by first | (simp; done) | (simp; omega) | omega) _) | (refine below_drewN ?_ _) | (refine Below.drew ?_) | (refine Below.trans ?_ (Below.mono hbd1 (by first | (simp; done) | (simp; omega) | omega))) | (refine Below.trans ?_ (Below.mono hbd2 (by first | (simp; done) | (simp; omega) | omega))))))
        have hsd2 := hd2.size
        obtain ⟨⟨q2_R1_0, q2_R1_1, q2_R1_2⟩, qf2_R1⟩ := R1.below hd2 (Nat.le_refl _)
        obtain ⟨q2_X1_0, q2_X1_1, q2_X1_2⟩ := X1.below hd2 (Nat.le_refl _)
        go_wp2_with fail
        clear hHeld
        have hHeld : (fun w' : World => w'.cell? ⟨(w.heap.size + 1) , 0, none⟩ = some (.int .i64 0) ∧ w'.cell? ⟨(w.heap.size + 1) , 1, none⟩ = some (.int .i64 0) ∧ w'.cell? ⟨(w.heap.size + 1) , 2, none⟩ = some (.slice none 0 0) ∧ w'.cell? ⟨w.heap.size, 0, none⟩ = some (.int .i64 k) ∧ w'.cell? ⟨w.heap.size, 1, none⟩ = some (.int .i64 k) ∧ w'.cell? ⟨w.heap.size, 2, none⟩ = some (.slice (some ⟨bx, fx, none⟩) xs.length c)) wd2 := by go_keep
        refine hK.out _ _ (fun _ => hHeld) ?_
        clear hK K
        try simp only [List.getElem_toArray, List.getElem_cons_zero, List.getElem_cons_succ, Act.put, List.setIfInBounds_toArray, List.set_cons_zero, List.set_cons_succ]
        refine wpAnyS_oneL (i := 11) rfl (by kernel_rfl) (fun K hK => ?_)
        go_simp
        (try go_wp2_with fail)
        refine hK.out _ _ (fun h => absurd h (by decide)) ?_
        clear hK K
        try simp only [List.getElem_toArray, List.getElem_cons_zero, List.getElem_cons_succ, Act.put, List.setIfInBounds_toArray, List.set_cons_zero, List.set_cons_succ]
        refine wpAnyS_oneL (i := 12) rfl (by kernel_rfl) (fun K hK => ?_)
        go_simp
        (try go_wp2_with fail)
        refine hK.out _ _ (fun h => absurd h (by decide)) ?_
        clear hK K
        try simp only [List.getElem_toArray, List.getElem_cons_zero, List.getElem_cons_succ, Act.put, List.setIfInBounds_toArray, List.set_cons_zero, List.set_cons_succ]
        refine wpAnyS_done (by kernel_rfl) ?_ _
        have hOn := R1.below hd2 (Nat.le_refl _)
        go_wp2_with fail
        have hgZ : w1.grownBy (((wd2.setCell ⟨(w.heap.size + 1) , 0, none⟩ (.int .i64 k)).setCell ⟨(w.heap.size + 1) , 1, none⟩ (.int .i64 k)).setCell ⟨(w.heap.size + 1) , 2, none⟩ (.slice oa xs.length ca)) (some (w.heap.size + 1) ) := (gr_put (gr_put (gr_put (show w1.grownBy wd2 (some (w.heap.size + 1) ) from World.grownBy.mk hd2.os hd2.tape hd2.output hd2.size (fun k hk _ => hd2.block k hk)) _ _) _ _) _ _)
        have hOZ : RB3 (((wd2.setCell ⟨(w.heap.size + 1) , 0, none⟩ (.int .i64 k)).setCell ⟨(w.heap.size + 1) , 1, none⟩ (.int .i64 k)).setCell ⟨(w.heap.size + 1) , 2, none⟩ (.slice oa xs.length ca)) (w.heap.size + 1)  (.int .i64 k) (.int .i64 k) (.slice oa xs.length ca) := RB3.put hOn _ _ _
        have hRZ : OwI (((wd2.setCell ⟨(w.heap.size + 1) , 0, none⟩ (.int .i64 k)).setCell ⟨(w.heap.size + 1) , 1, none⟩ (.int .i64 k)).setCell ⟨(w.heap.size + 1) , 2, none⟩ (.slice oa xs.length ca)) w1.heap.size (.slice oa xs.length ca) (powWL k k xs (invE k xs.length)) := (((hod2.low (by first | (simp; done) | (simp; omega) | omega) _).low (by first | (simp; done) | (simp; omega) | omega) _).low (by first | (simp; done) | (simp; omega) | omega) _).mono (by first | (simp; done) | (simp; omega) | omega)
        obtain ⟨⟨r0, r1, r2⟩, rf⟩ := hOZ
        refine bodyPost_ret (v := .tuple #[.agg #[.int .i64 k, .int .i64 k, .slice oa xs.length ca], .int .i64 0]) (by simp [results, Try.results95, go_sem, r0, r1, r2]) rfl ⟨_, rfl, hRZ.mono B1.size, below_gr B1 hgZ (by omega) B1.size, hlen⟩
      · have hR : invR m m xs = WR.bad 5 := by simp [invR, invB, hs, hx0]
        rw [hR]
        clear hR
        have i0 : (0 : Int) < (xs.length : Int) := by omega
        go_enter Try.func95, Try.ntmps95
        go_wp2_with fail
        (have X0 := (Box3.mk' w (.int .i64 m) (.int .i64 m) (.slice (some ⟨bx, fx, none⟩) xs.length c) 59).below (w' := (w.alloc (.cells #[.int .i64 m, .int .i64 m, .slice (some ⟨bx, fx, none⟩) xs.length c] 59)).alloc (.cells #[.int .i64 0, .int .i64 0, .slice none 0 0] 59)) (by (repeat (first | exact Below.refl _ _ | (refine Below.setCell ?_ (by first | (simp; done) | (simp; omega) | omega) _) | (refine Below.alloc ?_ (by first | (simp; done) | (simp; omega) | omega) _) | (refine below_drewN ?_ _) | (refine Below.drew ?_)))) (Nat.le_refl _); have R0 := RB3.mk2 w (.cells #[.int .i64 m, .int .i64 m, .slice (some ⟨bx, fx, none⟩) xs.length c] 59) (.int .i64 0) (.int .i64 0) (.slice none 0 0) 59; have B0 : Below w.heap.size w ((w.alloc (.cells #[.int .i64 m, .int .i64 m, .slice (some ⟨bx, fx, none⟩) xs.length c] 59)).alloc (.cells #[.int .i64 0, .int .i64 0, .slice none 0 0] 59)) := (by (repeat (first | exact Below.refl _ _ | (refine Below.setCell ?_ (by first | (simp; done) | (simp; omega) | omega) _) | (refine Below.alloc ?_ (by first | (simp; done) | (simp; omega) | omega) _) | (refine below_drewN ?_ _) | (refine Below.drew ?_)))); have hv0 := hv.below (w' := (w.alloc (.cells #[.int .i64 m, .int .i64 m, .slice (some ⟨bx, fx, none⟩) xs.length c] 59)).alloc (.cells #[.int .i64 0, .int .i64 0, .slice none 0 0] 59)) (by (repeat (first | exact Below.refl _ _ | (refine Below.setCell ?_ (by first | (simp; done) | (simp; omega) | omega) _) | (refine Below.alloc ?_ (by first | (simp; done) | (simp; omega) | omega) _) | (refine below_drewN ?_ _) | (refine Below.drew ?_)))) (Nat.le_refl _); generalize (w.alloc (.cells #[.int .i64 m, .int .i64 m, .slice (some ⟨bx, fx, none⟩) xs.length c] 59)).alloc (.cells #[.int .i64 0, .int .i64 0, .slice none 0 0] 59) = w0 at X0 R0 B0 hv0 ⊢)
        refine (IsWitt_c m m _ xs _ hv0).mono ?_
        rw [hs]
        rintro e w1 ⟨rfl, hb⟩
        (have X1 := X0.below hb (Nat.le_refl _); have R1 := R0.below hb (Nat.le_refl _); have hv1 := hv0.below hb (Nat.le_refl _); have B1 := B0.trans (hb.mono B0.size))
        obtain ⟨k0, k1, k2⟩ := id X1
        obtain ⟨⟨r0, r1, r2⟩, rf⟩ := id R1
        have cx := hv1.cell0 (some_at0 (show 0 < xs.length by omega))
        rw [Nat.add_zero] at cx
        go_wp2
        exact bodyPost_ret (v := .tuple #[.agg #[.int .i64 0, .int .i64 0, .slice none 0 0], .int .i64 5]) (by simp [results, Try.results95, go_sem, r0, r1, r2]) rfl ⟨_, rfl, OwI.nil _ _, (by (repeat (first | exact Below.refl _ _ | (refine Below.setCell ?_ (by first | (simp; done) | (simp; omega) | omega) _) | (refine Below.alloc ?_ (by first | (simp; done) | (simp; omega) | omega) _) | (refine below_drewN ?_ _) | (refine Below.drew ?_) | (refine Below.trans ?_ (Below.mono B1 (by first | (simp; done) | (simp; omega) | omega)))))), by simp [WR.bad]⟩
    · have hR : invR p m xs = WR.bad 5 := by
        have : (m == p) = false := by simpa using hmp
        simp [invR, invB, hs, this]
      rw [hR]
      clear hR
      go_enter Try.func95, Try.ntmps95
      go_wp2_with fail
      (have X0 := (Box3.mk' w (.int .i64 p) (.int .i64 m) (.slice o xs.length c) 59).below (w' := (w.alloc (.cells #[.int .i64 p, .int .i64 m, .slice o xs.length c] 59)).alloc (.cells #[.int .i64 0, .int .i64 0, .slice none 0 0] 59)) (by (repeat (first | exact Below.refl _ _ | (refine Below.setCell ?_ (by first | (simp; done) | (simp; omega) | omega) _) | (refine Below.alloc ?_ (by first | (simp; done) | (simp; omega) | omega) _) | (refine below_drewN ?_ _) | (refine Below.drew ?_)))) (Nat.le_refl _); have R0 := RB3.mk2 w (.cells #[.int .i64 p, .int .i64 m, .slice o xs.length c] 59) (.int .i64 0) (.int .i64 0) (.slice none 0 0) 59; have B0 : Below w.heap.size w ((w.alloc (.cells #[.int .i64 p, .int .i64 m, .slice o xs.length c] 59)).alloc (.cells #[.int .i64 0, .int .i64 0, .slice none 0 0] 59)) := (by (repeat (first | exact Below.refl _ _ | (refine Below.setCell ?_ (by first | (simp; done) | (simp; omega) | omega) _) | (refine Below.alloc ?_ (by first | (simp; done) | (simp; omega) | omega) _) | (refine below_drewN ?_ _) | (refine Below.drew ?_)))); have hv0 := hv.below (w' := (w.alloc (.cells #[.int .i64 p, .int .i64 m, .slice o xs.length c] 59)).alloc (.cells #[.int .i64 0, .int .i64 0, .slice none 0 0] 59)) (by (repeat (first | exact Below.refl _ _ | (refine Below.setCell ?_ (by first | (simp; done) | (simp; omega) | omega) _) | (refine Below.alloc ?_ (by first | (simp; done) | (simp; omega) | omega) _) | (refine below_drewN ?_ _) | (refine Below.drew ?_)))) (Nat.le_refl _); generalize (w.alloc (.cells #[.int .i64 p, .int .i64 m, .slice o xs.length c] 59)).alloc (.cells #[.int .i64 0, .int .i64 0, .slice none 0 0] 59) = w0 at X0 R0 B0 hv0 ⊢)
      refine (IsWitt_c p m _ xs _ hv0).mono ?_
      rw [hs]
      rintro e w1 ⟨rfl, hb⟩
      (have X1 := X0.below hb (Nat.le_refl _); have R1 := R0.below hb (Nat.le_refl _); have B1 := B0.trans (hb.mono B0.size))
      obtain ⟨k0, k1, k2⟩ := id X1
      obtain ⟨⟨r0, r1, r2⟩, rf⟩ := id R1
      go_wp2
      exact bodyPost_ret (v := .tuple #[.agg #[.int .i64 0, .int .i64 0, .slice none 0 0], .int .i64 5]) (by simp [results, Try.results95, go_sem, r0, r1, r2]) rfl ⟨_, rfl, OwI.nil _ _, (by (repeat (first | exact Below.refl _ _ | (refine Below.setCell ?_ (by first | (simp; done) | (simp; omega) | omega) _) | (refine Below.alloc ?_ (by first | (simp; done) | (simp; omega) | omega) _) | (refine below_drewN ?_ _) | (refine Below.drew ?_) | (refine Below.trans ?_ (Below.mono B1 (by first | (simp; done) | (simp; omega) | omega)))))), by simp [WR.bad]⟩

end Go.Proofs.Ytcjinlfgeljmkaa
