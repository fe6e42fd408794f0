/- Lemmas of PlaC. -/
import Derived.Test.YtcjinlfgeljmkaaWTPlaO
set_option linter.unusedSimpArgs false
set_option linter.unusedVariables false
namespace Go.Proofs.Ytcjinlfgeljmkaa
open Go.RowKit

def turnT (m : Int) (t : List (List Int)) : List (List Int) := tri t.length (fun i j => atT t j i % m)
def turnPR (m : Int) (t : List (List Int)) : PR := if plaB m t then ⟨m, turnT m t, 0⟩ else PR.bad 1

set_option maxHeartbeats 1000000 in
theorem turned1_c (i j b1 n : Nat) (m1 M : Int) (v : Value) (xss : List (List Int)) (w : World) (X : Box2 w b1 (.int .i64 m1) v) (hv : RdT w v xss)
    (hx : ∃ row, xss[j]? = some row ∧ row[i]? = some (atT xss j i) ∧ row.length = n - j ∧ 0 ≤ atT xss j i ∧ atT xss j i < M) :
    Calls Try.prog 219 #[.int .i64 i, .int .i64 j, .pointer (some ⟨b1, 0, none⟩)] w fun e w' => e = .returned (.int .i64 (atT xss j i)) ∧ ∃ d, w' = w.drewN d := by
  obtain ⟨r1, hr1, hr1j, hl1, hx0, hx1⟩ := hx
  obtain ⟨o1, c1, rfl, hm1, -⟩ := id hv
  have a1 := (List.getElem?_eq_some_iff.1 hr1).1
  have a3 := (List.getElem?_eq_some_iff.1 hr1j).1
  obtain ⟨bx, fx, rfl, -⟩ := hv.rows (by omega)
  obtain ⟨p1, q1, cx, rx⟩ := hv.row hr1
  obtain ⟨bp, fp, rfl, -⟩ := rx.cells (by omega)
  have ex := rx.cell0 hr1j
  obtain ⟨x0, x1⟩ := X
  have i0 : (0 : Int) ≤ (i : Int) := by omega
  have j0 : (0 : Int) ≤ (j : Int) := by omega
  have i1 : (j : Int) < (xss.length : Int) := by omega
  have j1 : (i : Int) < (r1.length : Int) := by omega
  clear hr1 hr1j
  go_enter Try.func219, Try.ntmps219
  go_wp2
  go_ret
  exact ⟨rfl, 0, rfl⟩
theorem turned1_callable : Callable 219 := fun args w => Try.call219 args w

set_option maxHeartbeats 1000000 in
set_option maxRecDepth 100000 in
theorem turnedP_c (m : Int) (v : Value) (xss : List (List Int)) (w : World) (hv : RdT w v xss) (h1 : 1 ≤ xss.length) (hn : xss.length ≤ 1000) (hm : 2 ≤ m) (hm' : m ≤ 1000000000000000000)
    (hx : ∀ i (hi : i < xss.length), xss[i].length = xss.length - i ∧ ∀ x ∈ xss[i], 0 ≤ x ∧ x < m) :
    Calls Try.prog 155 #[.agg #[.int .i64 m, v]] w fun e w' => PVEnd w w' m (turnT m xss) e := by
  obtain ⟨o, c, rfl, hmx, -⟩ := id hv
  unfold maxLen at hmx
  have HX := Lib.hid (fun i j (h : i + j < xss.length) => pla_at rfl hx h)
  clear hx
  go_enter Try.func155, Try.ntmps155
  go_wp2_with fail
  (have X0 := ((RB2.mk1 w  (.int .i64 m) (.slice o xss.length c) 42).1).below (w' := ((w.alloc (.cells #[.int .i64 m, .slice o xss.length c] 42)).alloc (.cells #[.int .i64 0, .slice none 0 0] 42))) (by (repeat (first | exact Below.refl _ _ | (refine Below.setCell ?_ (by first | (simp; done) | (simp; omega) | omega) _) | (refine Below.alloc ?_ (by first | (simp; done) | (simp; omega) | omega) _) | (refine below_drewN ?_ _) | (refine Below.drew ?_)))) (Nat.le_refl _); have R0 := ((RB2.mk2 w (.cells #[.int .i64 m, .slice o xss.length c] 42) (.int .i64 0) (.slice none 0 0) 42)).below (w' := ((w.alloc (.cells #[.int .i64 m, .slice o xss.length c] 42)).alloc (.cells #[.int .i64 0, .slice none 0 0] 42))) (by (repeat (first | exact Below.refl _ _ | (refine Below.setCell ?_ (by first | (simp; done) | (simp; omega) | omega) _) | (refine Below.alloc ?_ (by first | (simp; done) | (simp; omega) | omega) _) | (refine below_drewN ?_ _) | (refine Below.drew ?_)))) (Nat.le_refl _); have B0 : Below w.heap.size w ((w.alloc (.cells #[.int .i64 m, .slice o xss.length c] 42)).alloc (.cells #[.int .i64 0, .slice none 0 0] 42)) := (by (repeat (first | exact Below.refl _ _ | (refine Below.setCell ?_ (by first | (simp; done) | (simp; omega) | omega) _) | (refine Below.alloc ?_ (by first | (simp; done) | (simp; omega) | omega) _) | (refine below_drewN ?_ _) | (refine Below.drew ?_)))); have hv0 := hv.below (w' := ((w.alloc (.cells #[.int .i64 m, .slice o xss.length c] 42)).alloc (.cells #[.int .i64 0, .slice none 0 0] 42))) (by (repeat (first | exact Below.refl _ _ | (refine Below.setCell ?_ (by first | (simp; done) | (simp; omega) | omega) _) | (refine Below.alloc ?_ (by first | (simp; done) | (simp; omega) | omega) _) | (refine below_drewN ?_ _) | (refine Below.drew ?_)))) (Nat.le_refl _); generalize (w.alloc (.cells #[.int .i64 m, .slice o xss.length c] 42)).alloc (.cells #[.int .i64 0, .slice none 0 0] 42) = w0 at X0 R0 B0 hv0 ⊢)
  obtain ⟨x0, x1⟩ := id X0
  go_wp2_with fail
  refine (mapped1_c 219 _ (fun i j => atT xss j i) m o xss.length c _ h1 hn (by omega) hm' turned1_callable
    (fun i j h => by obtain ⟨_, _, _, _, h1, h2⟩ := HX.out j i (by omega); omega)
    (fun i j w1 h hb => turned1_c i j _ xss.length m m _ xss w1 (X0.below hb (Nat.le_refl _)) (hv0.below hb (Nat.le_refl _)) (HX.out j i (by omega)))).mono ?_
  rintro e w1 ⟨vz, rfl, how, hb⟩
  obtain ⟨oz, cz, rfl⟩ := how.shapeN (n := xss.length) (tri_len _ _)
  have hB0 := B0.size
  have hRl := R0.1.lt
  (have R1 := R0.below hb (Nat.le_refl _); have B1 := B0.trans (hb.mono B0.size))
  obtain ⟨⟨r0, r1⟩, rf⟩ := id R1
  go_wp2
  refine bodyPost_ret (v := .agg #[.int .i64 m, .slice oz xss.length cz]) (by simp [results, Try.results155, go_sem, r0, r1]) rfl ⟨_, rfl, ?_, ?_⟩
  · exact ((how.low hRl _).low hRl _).mono hB0
  · (repeat (first | exact Below.refl _ _ | (refine Below.setCell ?_ (by first | (simp; done) | (simp; omega) | omega) _) | (refine Below.alloc ?_ (by first | (simp; done) | (simp; omega) | omega) _) | (refine below_drewN ?_ _) | (refine Below.drew ?_) | (refine Below.trans ?_ (Below.mono B1 (by first | (simp; done) | (simp; omega) | omega)))))

set_option maxHeartbeats 1000000 in
set_option maxRecDepth 100000 in
theorem TurnPlane_c (m : Int) (v : Value) (xs : List (List Int)) (w : World) (hv : RdT w v xs) :
    Calls Try.prog 50 #[.agg #[.int .i64 m, v]] w fun e w' => PEnd w w' (turnPR m xs) e := by
  obtain ⟨o, c, rfl, -, -⟩ := id hv
  cases h1 : plaB m xs
  · have hR : turnPR m xs = PR.bad 1 := by simp [turnPR, h1]
    rw [hR]
    clear hR
    go_enter Try.func50, Try.ntmps50
    go_wp2_with fail
    (have X0 := ((RB2.mk1 w  (.int .i64 m) (.slice o xs.length c) 42).1).below (w' := ((w.alloc (.cells #[.int .i64 m, .slice o xs.length c] 42)).alloc (.cells #[.int .i64 0, .slice none 0 0] 42))) (by (repeat (first | exact Below.refl _ _ | (refine Below.setCell ?_ (by first | (simp; done) | (simp; omega) | omega) _) | (refine Below.alloc ?_ (by first | (simp; done) | (simp; omega) | omega) _) | (refine below_drewN ?_ _) | (refine Below.drew ?_)))) (Nat.le_refl _); have R0 := ((RB2.mk2 w (.cells #[.int .i64 m, .slice o xs.length c] 42) (.int .i64 0) (.slice none 0 0) 42)).below (w' := ((w.alloc (.cells #[.int .i64 m, .slice o xs.length c] 42)).alloc (.cells #[.int .i64 0, .slice none 0 0] 42))) (by (repeat (first | exact Below.refl _ _ | (refine Below.setCell ?_ (by first | (simp; done) | (simp; omega) | omega) _) | (refine Below.alloc ?_ (by first | (simp; done) | (simp; omega) | omega) _) | (refine below_drewN ?_ _) | (refine Below.drew ?_)))) (Nat.le_refl _); have B0 : Below w.heap.size w ((w.alloc (.cells #[.int .i64 m, .slice o xs.length c] 42)).alloc (.cells #[.int .i64 0, .slice none 0 0] 42)) := (by (repeat (first | exact Below.refl _ _ | (refine Below.setCell ?_ (by first | (simp; done) | (simp; omega) | omega) _) | (refine Below.alloc ?_ (by first | (simp; done) | (simp; omega) | omega) _) | (refine below_drewN ?_ _) | (refine Below.drew ?_)))); have hv0 := hv.below (w' := ((w.alloc (.cells #[.int .i64 m, .slice o xs.length c] 42)).alloc (.cells #[.int .i64 0, .slice none 0 0] 42))) (by (repeat (first | exact Below.refl _ _ | (refine Below.setCell ?_ (by first | (simp; done) | (simp; omega) | omega) _) | (refine Below.alloc ?_ (by first | (simp; done) | (simp; omega) | omega) _) | (refine below_drewN ?_ _) | (refine Below.drew ?_)))) (Nat.le_refl _); generalize (w.alloc (.cells #[.int .i64 m, .slice o xs.length c] 42)).alloc (.cells #[.int .i64 0, .slice none 0 0] 42) = w0 at X0 R0 B0 hv0 ⊢)
    (obtain ⟨gqX0, gqX1⟩ := id X0; go_wp2_with fail; refine (IsPlane_c m _ xs _ hv0).mono ?_; rw [h1]; rintro e w1 ⟨rfl, hb⟩; (have X1 := X0.below hb (Nat.le_refl _); have R1 := R0.below hb (Nat.le_refl _); have hv1 := hv0.below hb (Nat.le_refl _); have B1 := B0.trans (hb.mono B0.size)); clear gqX0 gqX1; clear hb)
    (obtain ⟨⟨r0, r1⟩, rf⟩ := id R1; go_wp2; exact bodyPost_ret (v := .tuple #[.agg #[.int .i64 0, .slice none 0 0], .int .i64 1]) (by simp [results, Try.results50, go_sem, r0, r1]) rfl ⟨_, rfl, OwS.nil _ _, (by (repeat (first | exact Below.refl _ _ | (refine Below.setCell ?_ (by first | (simp; done) | (simp; omega) | omega) _) | (refine Below.alloc ?_ (by first | (simp; done) | (simp; omega) | omega) _) | (refine below_drewN ?_ _) | (refine Below.drew ?_) | (refine Below.trans ?_ (Below.mono B1 (by first | (simp; done) | (simp; omega) | omega)))))), by simp [PR.bad, sizeT, numT]⟩)
  · have hn := pla_n h1
    have hm := pla_m h1
    have hx := pla_row h1
    have HX := Lib.hid hx
    have hR : turnPR m xs = ⟨m, turnT m xs, 0⟩ := by simp [turnPR, h1]
    rw [hR]
    have hlen : sizeT (turnT m xs) ≤ 1048576 := sizeT_tri (by omega) _
    clear hR hx
    go_enter Try.func50, Try.ntmps50
    go_wp2_with fail
    (have X0 := ((RB2.mk1 w  (.int .i64 m) (.slice o xs.length c) 42).1).below (w' := ((w.alloc (.cells #[.int .i64 m, .slice o xs.length c] 42)).alloc (.cells #[.int .i64 0, .slice none 0 0] 42))) (by (repeat (first | exact Below.refl _ _ | (refine Below.setCell ?_ (by first | (simp; done) | (simp; omega) | omega) _) | (refine Below.alloc ?_ (by first | (simp; done) | (simp; omega) | omega) _) | (refine below_drewN ?_ _) | (refine Below.drew ?_)))) (Nat.le_refl _); have R0 := ((RB2.mk2 w (.cells #[.int .i64 m, .slice o xs.length c] 42) (.int .i64 0) (.slice none 0 0) 42)).below (w' := ((w.alloc (.cells #[.int .i64 m, .slice o xs.length c] 42)).alloc (.cells #[.int .i64 0, .slice none 0 0] 42))) (by (repeat (first | exact Below.refl _ _ | (refine Below.setCell ?_ (by first | (simp; done) | (simp; omega) | omega) _) | (refine Below.alloc ?_ (by first | (simp; done) | (simp; omega) | omega) _) | (refine below_drewN ?_ _) | (refine Below.drew ?_)))) (Nat.le_refl _); have B0 : Below w.heap.size w ((w.alloc (.cells #[.int .i64 m, .slice o xs.length c] 42)).alloc (.cells #[.int .i64 0, .slice none 0 0] 42)) := (by (repeat (first | exact Below.refl _ _ | (refine Below.setCell ?_ (by first | (simp; done) | (simp; omega) | omega) _) | (refine Below.alloc ?_ (by first | (simp; done) | (simp; omega) | omega) _) | (refine below_drewN ?_ _) | (refine Below.drew ?_)))); have hv0 := hv.below (w' := ((w.alloc (.cells #[.int .i64 m, .slice o xs.length c] 42)).alloc (.cells #[.int .i64 0, .slice none 0 0] 42))) (by (repeat (first | exact Below.refl _ _ | (refine Below.setCell ?_ (by first | (simp; done) | (simp; omega) | omega) _) | (refine Below.alloc ?_ (by first | (simp; done) | (simp; omega) | omega) _) | (refine below_drewN ?_ _) | (refine Below.drew ?_)))) (Nat.le_refl _); generalize (w.alloc (.cells #[.int .i64 m, .slice o xs.length c] 42)).alloc (.cells #[.int .i64 0, .slice none 0 0] 42) = w0 at X0 R0 B0 hv0 ⊢)
    (obtain ⟨gqX0, gqX1⟩ := id X0; go_wp2_with fail; refine (IsPlane_c m _ xs _ hv0).mono ?_; rw [h1]; rintro e w1 ⟨rfl, hb⟩; (have X1 := X0.below hb (Nat.le_refl _); have R1 := R0.below hb (Nat.le_refl _); have hv1 := hv0.below hb (Nat.le_refl _); have B1 := B0.trans (hb.mono B0.size)); clear gqX0 gqX1; clear hb)
    (obtain ⟨gqX0, gqX1⟩ := id X1; go_wp2_with fail; refine (turnedP_c m _ xs _ hv1 (by omega) (by omega) (by omega) (by omega) HX.out).mono ?_; rintro e w2 ⟨vR, rfl, how, hb⟩; obtain ⟨oV, cV, rfl⟩ := how.shapeN (n := xs.length) (tri_len _ _); have hz := R1.1.lt; have hB := B1.size; (have R2 := R1.below hb (Nat.le_refl _); have B2 := B1.trans (hb.mono B1.size)); obtain ⟨⟨r0, r1⟩, rf⟩ := id R2; go_wp2; exact bodyPost_ret (v := .tuple #[.agg #[.int .i64 m, .slice oV xs.length cV], .int .i64 0]) (by simp [results, Try.results50, go_sem, r0, r1]) rfl ⟨_, rfl, ((how.low hz _).low hz _).mono hB, (by (repeat (first | exact Below.refl _ _ | (refine Below.setCell ?_ (by first | (simp; done) | (simp; omega) | omega) _) | (refine Below.alloc ?_ (by first | (simp; done) | (simp; omega) | omega) _) | (refine below_drewN ?_ _) | (refine Below.drew ?_) | (refine Below.trans ?_ (Below.mono B2 (by first | (simp; done) | (simp; omega) | omega)))))), hlen⟩)
end Go.Proofs.Ytcjinlfgeljmkaa
