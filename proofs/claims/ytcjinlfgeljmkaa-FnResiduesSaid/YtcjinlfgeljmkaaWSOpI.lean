/- Lemmas of OpI. -/
import Derived.Test.YtcjinlfgeljmkaaWSJoin
import Derived.Test.YtcjinlfgeljmkaaWSWvM
set_option linter.unusedSimpArgs false
set_option linter.unusedVariables false
namespace Go.Proofs.Ytcjinlfgeljmkaa
open Go.RowKit

theorem jL_FL {f : Int → Int → Int} {p : Nat} (hp : P4 p) {m : Int} (hm : 0 < m) (xs ys : List Int) {G : Nat → Int} (hn : xs.length ≤ 5) (hx : ∃ x, ∀ k, k < xs.length → gh p x k = G k)
    (hg : ∀ k, k < xs.length → f (gh p (at0 xs) k % (m * (p : Int) ^ 4)) (gh p (at0 ys) k % (m * (p : Int) ^ 4)) % (m * (p : Int) ^ 4) = G k % (m * (p : Int) ^ 4)) :
    (fromL (m * (p : Int) ^ 4) p (jL f p (m * (p : Int) ^ 4) xs ys xs.length)).map (· % m) = FL p m xs.length G := by
  have := wide_eq hp hm (e := 4) G (jL f p (m * (p : Int) ^ 4) xs ys xs.length) (by rw [jL_len]; omega) (by rw [jL_len]; exact hx) (fun k hk => by
    have hk' : k < xs.length := by rw [jL_len] at hk; exact hk
    simp only [jL, List.getElem_map, List.getElem_range]
    rw [Int.emod_emod_of_dvd _ (Int.dvd_refl _)]
    exact hg k hk')
  rw [jL_len] at this
  exact this
theorem sub_bound {W : Int} {a b : Int} (hW : W ≤ 30000000) (h1 : 0 ≤ a) (h2 : a < W) (h3 : 0 ≤ b) (h4 : b < W) : -9000000000000000000 ≤ a + b ∧ a + b ≤ 9000000000000000000 := by omega

set_option maxHeartbeats 1000000 in
set_option maxRecDepth 100000 in
theorem AddWitt_c (p m : Int) (v : Value) (xs : List Int) (q n : Int) (u : Value) (ys : List Int) (w : World) (hv : RdI w v xs) (hu : RdI w u ys) :
    Calls Try.prog 65 #[.agg #[.int .i64 p, .int .i64 m, v], .agg #[.int .i64 q, .int .i64 n, u]] w fun e w' => WEnd w w' (opR false p m xs q n ys) e := by
  obtain ⟨o, c, rfl, hmx, -⟩ := id hv
  obtain ⟨o', c', rfl, hmy, -⟩ := id hu
  by_cases hc : twoC p m xs q n ys = 0
  · obtain ⟨h1, h2, rfl, rfl, hl⟩ := twoC_0 hc
    have hR : opR false q n xs q n ys = ⟨q, n, opL q.toNat n xs ys false, 0⟩ := by simp [opR, hc]
    rw [hR]
    obtain ⟨hp, hpe⟩ := witt_P4 h1
    have hn := witt_len h1
    have hm := witt_m h1
    have hx := witt_x h1
    have hy := witt_x h2
    have HL := Lib.hid hl
    have Hop : Hid ((opL q.toNat n xs ys false).length = xs.length) := Lib.hid (opL_len _ _ _ _ _)
    generalize q.toNat = k at hp hpe Hop ⊢
    subst hpe
    have hWb := (wide_bounds hp (show 2 ≤ n by omega) (show n ≤ 10000 by omega) (show 4 ≤ 4 by omega)).2
    have HJ := Lib.hid (show _ = opL k n xs ys false from jL_FL (f := fun a b => a + b) hp (show 0 < n by omega) xs ys (G := opG k (at0 xs) (at0 ys) false) (by omega) (opG_ex hp _ _ _ _) (fun j _ => by show (_ + _) % _ = _; rw [← Int.add_emod]; rfl))
    clear hl
    go_enter Try.func65, Try.ntmps65
    go_wp2_with fail
    (have X0 := ((RB3.mk1 w  (.int .i64 k) (.int .i64 n) (.slice o xs.length c) 59).1).below (w' := (((w.alloc (.cells #[.int .i64 k, .int .i64 n, .slice o xs.length c] 59)).alloc (.cells #[.int .i64 k, .int .i64 n, .slice o' ys.length c'] 59)).alloc (.cells #[.int .i64 0, .int .i64 0, .slice none 0 0] 59))) (by (repeat (first | exact Below.refl _ _ | (refine Below.setCell ?_ (by first | (simp; done) | (simp; omega) | omega) _) | (refine Below.alloc ?_ (by first | (simp; done) | (simp; omega) | omega) _) | (refine below_drewN ?_ _) | (refine Below.drew ?_)))) (Nat.le_refl _); have Y0 := ((RB3.mk2 w (.cells #[.int .i64 k, .int .i64 n, .slice o xs.length c] 59) (.int .i64 k) (.int .i64 n) (.slice o' ys.length c') 59).1).below (w' := (((w.alloc (.cells #[.int .i64 k, .int .i64 n, .slice o xs.length c] 59)).alloc (.cells #[.int .i64 k, .int .i64 n, .slice o' ys.length c'] 59)).alloc (.cells #[.int .i64 0, .int .i64 0, .slice none 0 0] 59))) (by (repeat (first | exact Below.refl _ _ | (refine Below.setCell ?_ (by first | (simp; done) | (simp; omega) | omega) _) | (refine Below.alloc ?_ (by first | (simp; done) | (simp; omega) | omega) _) | (refine below_drewN ?_ _) | (refine Below.drew ?_)))) (Nat.le_refl _); have R0 := ((RB3.mk3 w (.cells #[.int .i64 k, .int .i64 n, .slice o xs.length c] 59) (.cells #[.int .i64 k, .int .i64 n, .slice o' ys.length c'] 59) (.int .i64 0) (.int .i64 0) (.slice none 0 0) 59)).below (w' := (((w.alloc (.cells #[.int .i64 k, .int .i64 n, .slice o xs.length c] 59)).alloc (.cells #[.int .i64 k, .int .i64 n, .slice o' ys.length c'] 59)).alloc (.cells #[.int .i64 0, .int .i64 0, .slice none 0 0] 59))) (by (repeat (first | exact Below.refl _ _ | (refine Below.setCell ?_ (by first | (simp; done) | (simp; omega) | omega) _) | (refine Below.alloc ?_ (by first | (simp; done) | (simp; omega) | omega) _) | (refine below_drewN ?_ _) | (refine Below.drew ?_)))) (Nat.le_refl _); have B0 : Below w.heap.size w (((w.alloc (.cells #[.int .i64 k, .int .i64 n, .slice o xs.length c] 59)).alloc (.cells #[.int .i64 k, .int .i64 n, .slice o' ys.length c'] 59)).alloc (.cells #[.int .i64 0, .int .i64 0, .slice none 0 0] 59)) := (by (repeat (first | exact Below.refl _ _ | (refine Below.setCell ?_ (by first | (simp; done) | (simp; omega) | omega) _) | (refine Below.alloc ?_ (by first | (simp; done) | (simp; omega) | omega) _) | (refine below_drewN ?_ _) | (refine Below.drew ?_)))); have hv0 := hv.below (w' := (((w.alloc (.cells #[.int .i64 k, .int .i64 n, .slice o xs.length c] 59)).alloc (.cells #[.int .i64 k, .int .i64 n, .slice o' ys.length c'] 59)).alloc (.cells #[.int .i64 0, .int .i64 0, .slice none 0 0] 59))) (by (repeat (first | exact Below.refl _ _ | (refine Below.setCell ?_ (by first | (simp; done) | (simp; omega) | omega) _) | (refine Below.alloc ?_ (by first | (simp; done) | (simp; omega) | omega) _) | (refine below_drewN ?_ _) | (refine Below.drew ?_)))) (Nat.le_refl _); have hu0 := hu.below (w' := (((w.alloc (.cells #[.int .i64 k, .int .i64 n, .slice o xs.length c] 59)).alloc (.cells #[.int .i64 k, .int .i64 n, .slice o' ys.length c'] 59)).alloc (.cells #[.int .i64 0, .int .i64 0, .slice none 0 0] 59))) (by (repeat (first | exact Below.refl _ _ | (refine Below.setCell ?_ (by first | (simp; done) | (simp; omega) | omega) _) | (refine Below.alloc ?_ (by first | (simp; done) | (simp; omega) | omega) _) | (refine below_drewN ?_ _) | (refine Below.drew ?_)))) (Nat.le_refl _); generalize ((w.alloc (.cells #[.int .i64 k, .int .i64 n, .slice o xs.length c] 59)).alloc (.cells #[.int .i64 k, .int .i64 n, .slice o' ys.length c'] 59)).alloc (.cells #[.int .i64 0, .int .i64 0, .slice none 0 0] 59) = w0 at X0 Y0 R0 B0 hv0 hu0 ⊢)
    obtain ⟨k0, k1, k2⟩ := id X0
    obtain ⟨y0, y1, y2⟩ := id Y0
    go_wp2_with fail
    refine (twoWitt_c k n k n _ _ xs ys _ hv0 hu0).mono ?_
    rw [hc]
    rintro e w1 ⟨rfl, hb⟩
    (have X1 := X0.below hb (Nat.le_refl _); have Y1 := Y0.below hb (Nat.le_refl _); have R1 := R0.below hb (Nat.le_refl _); have hv1 := hv0.below hb (Nat.le_refl _); have hu1 := hu0.below hb (Nat.le_refl _); have B1 := B0.trans (hb.mono B0.size))
    clear k0 k1 k2 y0 y1 y2
    obtain ⟨k0, k1, k2⟩ := id X1
    obtain ⟨y0, y1, y2⟩ := id Y1
    go_wp2_with fail
    refine (joined0_c 179 (fun a b => a + b) k n _ _ xs ys _ hp hv1 hu1 (by omega) HL.out (by omega) (by omega) (fun x h => by have := hx x h; omega) (fun x h => by have := hy x h; omega) opAdd_callable (fun a b h1 h2 h3 h4 => sub_bound hWb h1 h2 h3 h4) (fun a b w1 h1 h2 h3 h4 _ => opAdd_c a b w1 (sub_bound hWb h1 h2 h3 h4).1 (sub_bound hWb h1 h2 h3 h4).2)).mono ?_
    rw [HJ.out]
    rintro e w2 ⟨v2, rfl, how, hb2⟩
    obtain ⟨o2, c2, rfl⟩ := how.shapeN (n := xs.length) Hop.out
    have hz := R1.1.lt
    have hB1 := B1.size
    (have R2 := R1.below hb2 (Nat.le_refl _); have B2 := B1.trans (hb2.mono B1.size))
    obtain ⟨⟨r0, r1, r2⟩, rf⟩ := id R2
    go_wp2
    refine bodyPost_ret (v := .tuple #[.agg #[.int .i64 k, .int .i64 n, .slice o2 xs.length c2], .int .i64 0]) (by simp [results, Try.results65, go_sem, r0, r1, r2]) rfl ⟨_, rfl, ?_, ?_, by show (opL k n xs ys false).length ≤ 1048576; rw [Hop.out]; omega⟩
    · exact ((((how.low hz _).low hz _).low hz _)).mono hB1
    · (repeat (first | exact Below.refl _ _ | (refine Below.setCell ?_ (by first | (simp; done) | (simp; omega) | omega) _) | (refine Below.alloc ?_ (by first | (simp; done) | (simp; omega) | omega) _) | (refine below_drewN ?_ _) | (refine Below.drew ?_) | (refine Below.trans ?_ (Below.mono B2 (by first | (simp; done) | (simp; omega) | omega)))))
  · have hR : opR false p m xs q n ys = WR.bad (twoC p m xs q n ys) := by simp [opR, hc]
    rw [hR]
    obtain ⟨cc, hcc0⟩ : ∃ cc, twoC p m xs q n ys = cc := ⟨_, rfl⟩
    rw [hcc0] at hc ⊢
    have HC := Lib.hid hcc0
    clear hcc0 hR
    have hcc : (cc == 0) = false := by simp; exact hc
    go_enter Try.func65, Try.ntmps65
    go_wp2_with fail
    (have X0 := ((RB3.mk1 w  (.int .i64 p) (.int .i64 m) (.slice o xs.length c) 59).1).below (w' := (((w.alloc (.cells #[.int .i64 p, .int .i64 m, .slice o xs.length c] 59)).alloc (.cells #[.int .i64 q, .int .i64 n, .slice o' ys.length c'] 59)).alloc (.cells #[.int .i64 0, .int .i64 0, .slice none 0 0] 59))) (by (repeat (first | exact Below.refl _ _ | (refine Below.setCell ?_ (by first | (simp; done) | (simp; omega) | omega) _) | (refine Below.alloc ?_ (by first | (simp; done) | (simp; omega) | omega) _) | (refine below_drewN ?_ _) | (refine Below.drew ?_)))) (Nat.le_refl _); have Y0 := ((RB3.mk2 w (.cells #[.int .i64 p, .int .i64 m, .slice o xs.length c] 59) (.int .i64 q) (.int .i64 n) (.slice o' ys.length c') 59).1).below (w' := (((w.alloc (.cells #[.int .i64 p, .int .i64 m, .slice o xs.length c] 59)).alloc (.cells #[.int .i64 q, .int .i64 n, .slice o' ys.length c'] 59)).alloc (.cells #[.int .i64 0, .int .i64 0, .slice none 0 0] 59))) (by (repeat (first | exact Below.refl _ _ | (refine Below.setCell ?_ (by first | (simp; done) | (simp; omega) | omega) _) | (refine Below.alloc ?_ (by first | (simp; done) | (simp; omega) | omega) _) | (refine below_drewN ?_ _) | (refine Below.drew ?_)))) (Nat.le_refl _); have R0 := ((RB3.mk3 w (.cells #[.int .i64 p, .int .i64 m, .slice o xs.length c] 59) (.cells #[.int .i64 q, .int .i64 n, .slice o' ys.length c'] 59) (.int .i64 0) (.int .i64 0) (.slice none 0 0) 59)).below (w' := (((w.alloc (.cells #[.int .i64 p, .int .i64 m, .slice o xs.length c] 59)).alloc (.cells #[.int .i64 q, .int .i64 n, .slice o' ys.length c'] 59)).alloc (.cells #[.int .i64 0, .int .i64 0, .slice none 0 0] 59))) (by (repeat (first | exact Below.refl _ _ | (refine Below.setCell ?_ (by first | (simp; done) | (simp; omega) | omega) _) | (refine Below.alloc ?_ (by first | (simp; done) | (simp; omega) | omega) _) | (refine below_drewN ?_ _) | (refine Below.drew ?_)))) (Nat.le_refl _); have B0 : Below w.heap.size w (((w.alloc (.cells #[.int .i64 p, .int .i64 m, .slice o xs.length c] 59)).alloc (.cells #[.int .i64 q, .int .i64 n, .slice o' ys.length c'] 59)).alloc (.cells #[.int .i64 0, .int .i64 0, .slice none 0 0] 59)) := (by (repeat (first | exact Below.refl _ _ | (refine Below.setCell ?_ (by first | (simp; done) | (simp; omega) | omega) _) | (refine Below.alloc ?_ (by first | (simp; done) | (simp; omega) | omega) _) | (refine below_drewN ?_ _) | (refine Below.drew ?_)))); have hv0 := hv.below (w' := (((w.alloc (.cells #[.int .i64 p, .int .i64 m, .slice o xs.length c] 59)).alloc (.cells #[.int .i64 q, .int .i64 n, .slice o' ys.length c'] 59)).alloc (.cells #[.int .i64 0, .int .i64 0, .slice none 0 0] 59))) (by (repeat (first | exact Below.refl _ _ | (refine Below.setCell ?_ (by first | (simp; done) | (simp; omega) | omega) _) | (refine Below.alloc ?_ (by first | (simp; done) | (simp; omega) | omega) _) | (refine below_drewN ?_ _) | (refine Below.drew ?_)))) (Nat.le_refl _); have hu0 := hu.below (w' := (((w.alloc (.cells #[.int .i64 p, .int .i64 m, .slice o xs.length c] 59)).alloc (.cells #[.int .i64 q, .int .i64 n, .slice o' ys.length c'] 59)).alloc (.cells #[.int .i64 0, .int .i64 0, .slice none 0 0] 59))) (by (repeat (first | exact Below.refl _ _ | (refine Below.setCell ?_ (by first | (simp; done) | (simp; omega) | omega) _) | (refine Below.alloc ?_ (by first | (simp; done) | (simp; omega) | omega) _) | (refine below_drewN ?_ _) | (refine Below.drew ?_)))) (Nat.le_refl _); generalize ((w.alloc (.cells #[.int .i64 p, .int .i64 m, .slice o xs.length c] 59)).alloc (.cells #[.int .i64 q, .int .i64 n, .slice o' ys.length c'] 59)).alloc (.cells #[.int .i64 0, .int .i64 0, .slice none 0 0] 59) = w0 at X0 Y0 R0 B0 hv0 hu0 ⊢)
    obtain ⟨k0, k1, k2⟩ := id X0
    obtain ⟨y0, y1, y2⟩ := id Y0
    go_wp2_with fail
    refine (twoWitt_c p m q n _ _ xs ys _ hv0 hu0).mono ?_
    rw [HC.out]
    rintro e w1 ⟨rfl, hb⟩
    (have R1 := R0.below hb (Nat.le_refl _); have B1 := B0.trans (hb.mono B0.size))
    obtain ⟨⟨r0, r1, r2⟩, rf⟩ := id R1
    go_wp2
    exact bodyPost_ret (v := .tuple #[.agg #[.int .i64 0, .int .i64 0, .slice none 0 0], .int .i64 cc]) (by simp [results, Try.results65, go_sem, r0, r1, r2]) rfl ⟨_, rfl, OwI.nil _ _, (by (repeat (first | exact Below.refl _ _ | (refine Below.setCell ?_ (by first | (simp; done) | (simp; omega) | omega) _) | (refine Below.alloc ?_ (by first | (simp; done) | (simp; omega) | omega) _) | (refine below_drewN ?_ _) | (refine Below.drew ?_) | (refine Below.trans ?_ (Below.mono B1 (by first | (simp; done) | (simp; omega) | omega)))))), by simp [WR.bad]⟩

set_option maxHeartbeats 1000000 in
set_option maxRecDepth 100000 in
theorem MultiplyWitt_c (p m : Int) (v : Value) (xs : List Int) (q n : Int) (u : Value) (ys : List Int) (w : World) (hv : RdI w v xs) (hu : RdI w u ys) :
    Calls Try.prog 59 #[.agg #[.int .i64 p, .int .i64 m, v], .agg #[.int .i64 q, .int .i64 n, u]] w fun e w' => WEnd w w' (opR true p m xs q n ys) e := by
  obtain ⟨o, c, rfl, hmx, -⟩ := id hv
  obtain ⟨o', c', rfl, hmy, -⟩ := id hu
  by_cases hc : twoC p m xs q n ys = 0
  · obtain ⟨h1, h2, rfl, rfl, hl⟩ := twoC_0 hc
    have hR : opR true q n xs q n ys = ⟨q, n, opL q.toNat n xs ys true, 0⟩ := by simp [opR, hc]
    rw [hR]
    obtain ⟨hp, hpe⟩ := witt_P4 h1
    have hn := witt_len h1
    have hm := witt_m h1
    have hx := witt_x h1
    have hy := witt_x h2
    have HL := Lib.hid hl
    have Hop : Hid ((opL q.toNat n xs ys true).length = xs.length) := Lib.hid (opL_len _ _ _ _ _)
    generalize q.toNat = k at hp hpe Hop ⊢
    subst hpe
    have hWb := (wide_bounds hp (show 2 ≤ n by omega) (show n ≤ 10000 by omega) (show 4 ≤ 4 by omega))
    have HJ := Lib.hid (show _ = opL k n xs ys true from jL_FL (f := fun a b => a * b % (n * (k : Int) ^ 4)) hp (show 0 < n by omega) xs ys (G := opG k (at0 xs) (at0 ys) true) (by omega) (opG_ex hp _ _ _ _) (fun j _ => by show (_ * _) % _ % _ = _; rw [Int.emod_emod_of_dvd _ (Int.dvd_refl _), ← Int.mul_emod]; rfl))
    clear hl
    go_enter Try.func59, Try.ntmps59
    go_wp2_with fail
    (have X0 := ((RB3.mk1 w  (.int .i64 k) (.int .i64 n) (.slice o xs.length c) 59).1).below (w' := (((w.alloc (.cells #[.int .i64 k, .int .i64 n, .slice o xs.length c] 59)).alloc (.cells #[.int .i64 k, .int .i64 n, .slice o' ys.length c'] 59)).alloc (.cells #[.int .i64 0, .int .i64 0, .slice none 0 0] 59))) (by (repeat (first | exact Below.refl _ _ | (refine Below.setCell ?_ (by first | (simp; done) | (simp; omega) | omega) _) | (refine Below.alloc ?_ (by first | (simp; done) | (simp; omega) | omega) _) | (refine below_drewN ?_ _) | (refine Below.drew ?_)))) (Nat.le_refl _); have Y0 := ((RB3.mk2 w (.cells #[.int .i64 k, .int .i64 n, .slice o xs.length c] 59) (.int .i64 k) (.int .i64 n) (.slice o' ys.length c') 59).1).below (w' := (((w.alloc (.cells #[.int .i64 k, .int .i64 n, .slice o xs.length c] 59)).alloc (.cells #[.int .i64 k, .int .i64 n, .slice o' ys.length c'] 59)).alloc (.cells #[.int .i64 0, .int .i64 0, .slice none 0 0] 59))) (by (repeat (first | exact Below.refl _ _ | (refine Below.setCell ?_ (by first | (simp; done) | (simp; omega) | omega) _) | (refine Below.alloc ?_ (by first | (simp; done) | (simp; omega) | omega) _) | (refine below_drewN ?_ _) | (refine Below.drew ?_)))) (Nat.le_refl _); have R0 := ((RB3.mk3 w (.cells #[.int .i64 k, .int .i64 n, .slice o xs.length c] 59) (.cells #[.int .i64 k, .int .i64 n, .slice o' ys.length c'] 59) (.int .i64 0) (.int .i64 0) (.slice none 0 0) 59)).below (w' := (((w.alloc (.cells #[.int .i64 k, .int .i64 n, .slice o xs.length c] 59)).alloc (.cells #[.int .i64 k, .int .i64 n, .slice o' ys.length c'] 59)).alloc (.cells #[.int .i64 0, .int .i64 0, .slice none 0 0] 59))) (by (repeat (first | exact Below.refl _ _ | (refine Below.setCell ?_ (by first | (simp; done) | (simp; omega) | omega) _) | (refine Below.alloc ?_ (by first | (simp; done) | (simp; omega) | omega) _) | (refine below_drewN ?_ _) | (refine Below.drew ?_)))) (Nat.le_refl _); have B0 : Below w.heap.size w (((w.alloc (.cells #[.int .i64 k, .int .i64 n, .slice o xs.length c] 59)).alloc (.cells #[.int .i64 k, .int .i64 n, .slice o' ys.length c'] 59)).alloc (.cells #[.int .i64 0, .int .i64 0, .slice none 0 0] 59)) := (by (repeat (first | exact Below.refl _ _ | (refine Below.setCell ?_ (by first | (simp; done) | (simp; omega) | omega) _) | (refine Below.alloc ?_ (by first | (simp; done) | (simp; omega) | omega) _) | (refine below_drewN ?_ _) | (refine Below.drew ?_)))); have hv0 := hv.below (w' := (((w.alloc (.cells #[.int .i64 k, .int .i64 n, .slice o xs.length c] 59)).alloc (.cells #[.int .i64 k, .int .i64 n, .slice o' ys.length c'] 59)).alloc (.cells #[.int .i64 0, .int .i64 0, .slice none 0 0] 59))) (by (repeat (first | exact Below.refl _ _ | (refine Below.setCell ?_ (by first | (simp; done) | (simp; omega) | omega) _) | (refine Below.alloc ?_ (by first | (simp; done) | (simp; omega) | omega) _) | (refine below_drewN ?_ _) | (refine Below.drew ?_)))) (Nat.le_refl _); have hu0 := hu.below (w' := (((w.alloc (.cells #[.int .i64 k, .int .i64 n, .slice o xs.length c] 59)).alloc (.cells #[.int .i64 k, .int .i64 n, .slice o' ys.length c'] 59)).alloc (.cells #[.int .i64 0, .int .i64 0, .slice none 0 0] 59))) (by (repeat (first | exact Below.refl _ _ | (refine Below.setCell ?_ (by first | (simp; done) | (simp; omega) | omega) _) | (refine Below.alloc ?_ (by first | (simp; done) | (simp; omega) | omega) _) | (refine below_drewN ?_ _) | (refine Below.drew ?_)))) (Nat.le_refl _); generalize ((w.alloc (.cells #[.int .i64 k, .int .i64 n, .slice o xs.length c] 59)).alloc (.cells #[.int .i64 k, .int .i64 n, .slice o' ys.length c'] 59)).alloc (.cells #[.int .i64 0, .int .i64 0, .slice none 0 0] 59) = w0 at X0 Y0 R0 B0 hv0 hu0 ⊢)
    obtain ⟨k0, k1, k2⟩ := id X0
    obtain ⟨y0, y1, y2⟩ := id Y0
    go_wp2_with fail
    refine (twoWitt_c k n k n _ _ xs ys _ hv0 hu0).mono ?_
    rw [hc]
    rintro e w1 ⟨rfl, hb⟩
    (have X1 := X0.below hb (Nat.le_refl _); have Y1 := Y0.below hb (Nat.le_refl _); have R1 := R0.below hb (Nat.le_refl _); have hv1 := hv0.below hb (Nat.le_refl _); have hu1 := hu0.below hb (Nat.le_refl _); have B1 := B0.trans (hb.mono B0.size))
    clear k0 k1 k2 y0 y1 y2
    obtain ⟨k0, k1, k2⟩ := id X1
    go_wp2_with fail
    refine (wide_c k n o xs.length c _ hp (by omega) (by omega)).mono ?_
    rintro e w2 ⟨rfl, hb2⟩
    (have X2 := X1.below hb2 (Nat.le_refl _); have Y2 := Y1.below hb2 (Nat.le_refl _); have R2 := R1.below hb2 (Nat.le_refl _); have hv2 := hv1.below hb2 (Nat.le_refl _); have hu2 := hu1.below hb2 (Nat.le_refl _); have B2 := B1.trans (hb2.mono B1.size))
    obtain ⟨W, hWe⟩ : ∃ W, n * (k : Int) ^ 4 = W := ⟨_, rfl⟩
    rw [hWe] at hWb HJ ⊢
    have HWe := Lib.hid hWe
    clear k0 k1 k2 hWe hb2
    obtain ⟨k0, k1, k2⟩ := id X2
    obtain ⟨y0, y1, y2⟩ := id Y2
    have hl0 := X2.lt
    have hl1 := Y2.lt
    go_wp2_with fail
    have hbW : Below w2.heap.size w2 (w2.alloc (.cells #[.int .i64 W] 2)) := (by (repeat (first | exact Below.refl _ _ | (refine Below.setCell ?_ (by first | (simp; done) | (simp; omega) | omega) _) | (refine Below.alloc ?_ (by first | (simp; done) | (simp; omega) | omega) _) | (refine below_drewN ?_ _) | (refine Below.drew ?_))))
    have hcW : (w2.alloc (.cells #[.int .i64 W] 2)).cell? ⟨w2.heap.size, 0, none⟩ = some (.int .i64 W) := by simp
    (have X3 := X2.below hbW (Nat.le_refl _); have Y3 := Y2.below hbW (Nat.le_refl _); have R3 := R2.below hbW (Nat.le_refl _); have hv3 := hv2.below hbW (Nat.le_refl _); have hu3 := hu2.below hbW (Nat.le_refl _); have B3 := B2.trans (hbW.mono B2.size))
    clear k0 k1 k2 y0 y1 y2
    generalize w2.alloc (.cells #[.int .i64 W] 2) = w3 at hcW X3 Y3 R3 hv3 hu3 B3 ⊢
    clear hbW
    refine (joined1_c 172 _ (fun a b => a * b % W) k n _ _ xs ys _ hp hv3 hu3 (by omega) HL.out (by omega) (by omega) (fun x h => by have := hx x h; omega) (fun x h => by have := hy x h; omega) opMultiply_callable
      (fun a b h1 h2 h3 h4 => by have := mod_lt' (a := a * b) (show 0 < W by omega); omega)
      (fun a b w1 h1 h2 h3 h4 hb => by rw [HWe.out] at h2 h4; exact opMultiply_c a b W w2.heap.size w1 (keep_cell hb (Nat.le_refl _) hcW) (by omega) (by omega) h1 h2 h3 h4)).mono ?_
    rw [HWe.out]
    rw [HJ.out]
    rintro e w4 ⟨v2, rfl, how, hb4⟩
    obtain ⟨o2, c2, rfl⟩ := how.shapeN (n := xs.length) Hop.out
    have hz := R3.1.lt
    have hB1 := B3.size
    (have R4 := R3.below hb4 (Nat.le_refl _); have B4 := B3.trans (hb4.mono B3.size))
    obtain ⟨⟨r0, r1, r2⟩, rf⟩ := id R4
    go_wp2
    refine bodyPost_ret (v := .tuple #[.agg #[.int .i64 k, .int .i64 n, .slice o2 xs.length c2], .int .i64 0]) (by simp [results, Try.results59, go_sem, r0, r1, r2]) rfl ⟨_, rfl, ?_, ?_, by show (opL k n xs ys true).length ≤ 1048576; rw [Hop.out]; omega⟩
    · exact ((((how.low hz _).low hz _).low hz _)).mono hB1
    · (repeat (first | exact Below.refl _ _ | (refine Below.setCell ?_ (by first | (simp; done) | (simp; omega) | omega) _) | (refine Below.alloc ?_ (by first | (simp; done) | (simp; omega) | omega) _) | (refine below_drewN ?_ _) | (refine Below.drew ?_) | (refine Below.trans ?_ (Below.mono B4 (by first | (simp; done) | (simp; omega) | omega)))))
  · have hR : opR true p m xs q n ys = WR.bad (twoC p m xs q n ys) := by simp [opR, hc]
    rw [hR]
    obtain ⟨cc, hcc0⟩ : ∃ cc, twoC p m xs q n ys = cc := ⟨_, rfl⟩
    rw [hcc0] at hc ⊢
    have HC := Lib.hid hcc0
    clear hcc0 hR
    have hcc : (cc == 0) = false := by simp; exact hc
    go_enter Try.func59, Try.ntmps59
    go_wp2_with fail
    (have X0 := ((RB3.mk1 w  (.int .i64 p) (.int .i64 m) (.slice o xs.length c) 59).1).below (w' := (((w.alloc (.cells #[.int .i64 p, .int .i64 m, .slice o xs.length c] 59)).alloc (.cells #[.int .i64 q, .int .i64 n, .slice o' ys.length c'] 59)).alloc (.cells #[.int .i64 0, .int .i64 0, .slice none 0 0] 59))) (by (repeat (first | exact Below.refl _ _ | (refine Below.setCell ?_ (by first | (simp; done) | (simp; omega) | omega) _) | (refine Below.alloc ?_ (by first | (simp; done) | (simp; omega) | omega) _) | (refine below_drewN ?_ _) | (refine Below.drew ?_)))) (Nat.le_refl _); have Y0 := ((RB3.mk2 w (.cells #[.int .i64 p, .int .i64 m, .slice o xs.length c] 59) (.int .i64 q) (.int .i64 n) (.slice o' ys.length c') 59).1).below (w' := (((w.alloc (.cells #[.int .i64 p, .int .i64 m, .slice o xs.length c] 59)).alloc (.cells #[.int .i64 q, .int .i64 n, .slice o' ys.length c'] 59)).alloc (.cells #[.int .i64 0, .int .i64 0, .slice none 0 0] 59))) (by (repeat (first | exact Below.refl _ _ | (refine Below.setCell ?_ (by first | (simp; done) | (simp; omega) | omega) _) | (refine Below.alloc ?_ (by first | (simp; done) | (simp; omega) | omega) _) | (refine below_drewN ?_ _) | (refine Below.drew ?_)))) (Nat.le_refl _); have R0 := ((RB3.mk3 w (.cells #[.int .i64 p, .int .i64 m, .slice o xs.length c] 59) (.cells #[.int .i64 q, .int .i64 n, .slice o' ys.length c'] 59) (.int .i64 0) (.int .i64 0) (.slice none 0 0) 59)).below (w' := (((w.alloc (.cells #[.int .i64 p, .int .i64 m, .slice o xs.length c] 59)).alloc (.cells #[.int .i64 q, .int .i64 n, .slice o' ys.length c'] 59)).alloc (.cells #[.int .i64 0, .int .i64 0, .slice none 0 0] 59))) (by (repeat (first | exact Below.refl _ _ | (refine Below.setCell ?_ (by first | (simp; done) | (simp; omega) | omega) _) | (refine Below.alloc ?_ (by first | (simp; done) | (simp; omega) | omega) _) | (refine below_drewN ?_ _) | (refine Below.drew ?_)))) (Nat.le_refl _); have B0 : Below w.heap.size w (((w.alloc (.cells #[.int .i64 p, .int .i64 m, .slice o xs.length c] 59)).alloc (.cells #[.int .i64 q, .int .i64 n, .slice o' ys.length c'] 59)).alloc (.cells #[.int .i64 0, .int .i64 0, .slice none 0 0] 59)) := (by (repeat (first | exact Below.refl _ _ | (refine Below.setCell ?_ (by first | (simp; done) | (simp; omega) | omega) _) | (refine Below.alloc ?_ (by first | (simp; done) | (simp; omega) | omega) _) | (refine below_drewN ?_ _) | (refine Below.drew ?_)))); have hv0 := hv.below (w' := (((w.alloc (.cells #[.int .i64 p, .int .i64 m, .slice o xs.length c] 59)).alloc (.cells #[.int .i64 q, .int .i64 n, .slice o' ys.length c'] 59)).alloc (.cells #[.int .i64 0, .int .i64 0, .slice none 0 0] 59))) (by (repeat (first | exact Below.refl _ _ | (refine Below.setCell ?_ (by first | (simp; done) | (simp; omega) | omega) _) | (refine Below.alloc ?_ (by first | (simp; done) | (simp; omega) | omega) _) | (refine below_drewN ?_ _) | (refine Below.drew ?_)))) (Nat.le_refl _); have hu0 := hu.below (w' := (((w.alloc (.cells #[.int .i64 p, .int .i64 m, .slice o xs.length c] 59)).alloc (.cells #[.int .i64 q, .int .i64 n, .slice o' ys.length c'] 59)).alloc (.cells #[.int .i64 0, .int .i64 0, .slice none 0 0] 59))) (by (repeat (first | exact Below.refl _ _ | (refine Below.setCell ?_ (by first | (simp; done) | (simp; omega) | omega) _) | (refine Below.alloc ?_ (by first | (simp; done) | (simp; omega) | omega) _) | (refine below_drewN ?_ _) | (refine Below.drew ?_)))) (Nat.le_refl _); generalize ((w.alloc (.cells #[.int .i64 p, .int .i64 m, .slice o xs.length c] 59)).alloc (.cells #[.int .i64 q, .int .i64 n, .slice o' ys.length c'] 59)).alloc (.cells #[.int .i64 0, .int .i64 0, .slice none 0 0] 59) = w0 at X0 Y0 R0 B0 hv0 hu0 ⊢)
    obtain ⟨k0, k1, k2⟩ := id X0
    obtain ⟨y0, y1, y2⟩ := id Y0
    go_wp2_with fail
    refine (twoWitt_c p m q n _ _ xs ys _ hv0 hu0).mono ?_
    rw [HC.out]
    rintro e w1 ⟨rfl, hb⟩
    (have R1 := R0.below hb (Nat.le_refl _); have B1 := B0.trans (hb.mono B0.size))
    obtain ⟨⟨r0, r1, r2⟩, rf⟩ := id R1
    go_wp2
    exact bodyPost_ret (v := .tuple #[.agg #[.int .i64 0, .int .i64 0, .slice none 0 0], .int .i64 cc]) (by simp [results, Try.results59, go_sem, r0, r1, r2]) rfl ⟨_, rfl, OwI.nil _ _, (by (repeat (first | exact Below.refl _ _ | (refine Below.setCell ?_ (by first | (simp; done) | (simp; omega) | omega) _) | (refine Below.alloc ?_ (by first | (simp; done) | (simp; omega) | omega) _) | (refine below_drewN ?_ _) | (refine Below.drew ?_) | (refine Below.trans ?_ (Below.mono B1 (by first | (simp; done) | (simp; omega) | omega)))))), by simp [WR.bad]⟩

end Go.Proofs.Ytcjinlfgeljmkaa
