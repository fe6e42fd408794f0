/- Lemmas of PlaN. -/
import Derived.Test.YtoednonijmkbjaaQPlaM
set_option linter.unusedSimpArgs false
set_option linter.unusedVariables false
namespace Go.Proofs.Ytoednonijmkbjaa
open Go.RowKit

theorem pla_at {xss : List (List Int)} {m : Int} {n i j : Nat} (hl : xss.length = n) (hx : ∀ i (hi : i < xss.length), xss[i].length = xss.length - i ∧ ∀ x ∈ xss[i], 0 ≤ x ∧ x < m) (h : i + j < n) :
    ∃ row, xss[i]? = some row ∧ row[j]? = some (atT xss i j) ∧ row.length = n - i ∧ 0 ≤ atT xss i j ∧ atT xss i j < m := by
  have hi : i < xss.length := by omega
  have h1 := hx i hi
  have h2 : atT xss i j = at0 xss[i] j := atT_row hi
  have h3 : j < xss[i].length := by omega
  refine ⟨xss[i], by simp [hi], by rw [h2]; exact some_at0 h3, by omega, ?_⟩
  rw [h2]
  exact h1.2 _ (mem_at0 h3)

set_option maxHeartbeats 1000000 in
theorem plus1_c (i j b1 b2 n : Nat) (m1 m2 M : Int) (v u : Value) (xss yss : List (List Int)) (w : World) (X : Box2 w b1 (.int .i64 m1) v) (Y : Box2 w b2 (.int .i64 m2) u) (hv : RdT w v xss) (hu : RdT w u yss)
    (hx : ∃ row, xss[i]? = some row ∧ row[j]? = some (atT xss i j) ∧ row.length = n - i ∧ 0 ≤ atT xss i j ∧ atT xss i j < M)
    (hy : ∃ row, yss[i]? = some row ∧ row[j]? = some (atT yss i j) ∧ row.length = n - i ∧ 0 ≤ atT yss i j ∧ atT yss i j < M) (hM : M ≤ 4000000000000000000) :
    Calls Try.prog 108 #[.int .i64 i, .int .i64 j, .pointer (some ⟨b1, 0, none⟩), .pointer (some ⟨b2, 0, none⟩)] w fun e w' => e = .returned (.int .i64 (atT xss i j + atT yss i j)) ∧ ∃ d, w' = w.drewN d := by
  obtain ⟨r1, hr1, hr1j, hl1, hx0, hx1⟩ := hx
  obtain ⟨r2, hr2, hr2j, hl2, hy0, hy1⟩ := hy
  obtain ⟨o1, c1, rfl, hm1, -⟩ := id hv
  obtain ⟨o2, c2, rfl, hm2, -⟩ := id hu
  have a1 := (List.getElem?_eq_some_iff.1 hr1).1
  have a2 := (List.getElem?_eq_some_iff.1 hr2).1
  have a3 := (List.getElem?_eq_some_iff.1 hr1j).1
  have a4 := (List.getElem?_eq_some_iff.1 hr2j).1
  obtain ⟨bx, fx, rfl, -⟩ := hv.rows (by omega)
  obtain ⟨by', fy, rfl, -⟩ := hu.rows (by omega)
  obtain ⟨p1, q1, cx, rx⟩ := hv.row hr1
  obtain ⟨p2, q2, cy, ry⟩ := hu.row hr2
  obtain ⟨bp, fp, rfl, -⟩ := rx.cells (by omega)
  obtain ⟨bq, fq, rfl, -⟩ := ry.cells (by omega)
  have ex := rx.cell0 hr1j
  have ey := ry.cell0 hr2j
  obtain ⟨x0, x1⟩ := X
  obtain ⟨y0, y1⟩ := Y
  have i0 : (0 : Int) ≤ (i : Int) := by omega
  have j0 : (0 : Int) ≤ (j : Int) := by omega
  have i1 : (i : Int) < (xss.length : Int) := by omega
  have i2 : (i : Int) < (yss.length : Int) := by omega
  have j1 : (j : Int) < (r1.length : Int) := by omega
  have j2 : (j : Int) < (r2.length : Int) := by omega
  have e1 : IntKind.i64.wrap (atT xss i j + atT yss i j) = atT xss i j + atT yss i j := IntWalk.i64_in _ (by omega)
  clear hr1 hr2 hr1j hr2j
  go_enter Try.func108, Try.ntmps108
  go_wp2
  go_quiet (fail)
  go_wp2
  go_ret
  exact ⟨rfl, _, rfl⟩
theorem plus1_callable : Callable 108 := fun args w => Try.call108 args w

set_option maxHeartbeats 1000000 in
set_option maxRecDepth 100000 in
theorem plusP_c (m m' : Int) (v u : Value) (xss yss : List (List Int)) (w : World) (hv : RdT w v xss) (hu : RdT w u yss) (h1 : 1 ≤ xss.length) (hn : xss.length ≤ 1000) (hl : yss.length = xss.length) (hm : 2 ≤ m) (hm' : m ≤ 1000000000000000000)
    (hx : ∀ i (hi : i < xss.length), xss[i].length = xss.length - i ∧ ∀ x ∈ xss[i], 0 ≤ x ∧ x < m) (hy : ∀ i (hi : i < yss.length), yss[i].length = yss.length - i ∧ ∀ x ∈ yss[i], 0 ≤ x ∧ x < m) :
    Calls Try.prog 87 #[.agg #[.int .i64 m, v], .agg #[.int .i64 m', u]] w fun e w' => PVEnd w w' m (tri xss.length (fun i j => (atT xss i j + atT yss i j) % m)) e := by
  obtain ⟨o, c, rfl, hmx, -⟩ := id hv
  obtain ⟨o', c', rfl, hmy, -⟩ := id hu
  unfold maxLen at hmx hmy
  have HL := Lib.hid hl
  have HX := Lib.hid (fun i j (h : i + j < xss.length) => pla_at rfl hx h)
  have HY := Lib.hid (fun i j (h : i + j < xss.length) => pla_at hl hy h)
  clear hl hx hy
  go_enter Try.func87, Try.ntmps87
  go_wp2_with fail
  (have X0 := ((RB2.mk1 w  (.int .i64 m) (.slice o xss.length c) 24).1).below (w' := (((w.alloc (.cells #[.int .i64 m, .slice o xss.length c] 24)).alloc (.cells #[.int .i64 m', .slice o' yss.length c'] 24)).alloc (.cells #[.int .i64 0, .slice none 0 0] 24))) (by (repeat (first | exact Below.refl _ _ | (refine Below.setCell ?_ (by first | (simp; done) | (simp; omega) | omega) _) | (refine Below.alloc ?_ (by first | (simp; done) | (simp; omega) | omega) _) | (refine below_drewN ?_ _) | (refine Below.drew ?_)))) (Nat.le_refl _); have Y0 := ((RB2.mk2 w (.cells #[.int .i64 m, .slice o xss.length c] 24) (.int .i64 m') (.slice o' yss.length c') 24).1).below (w' := (((w.alloc (.cells #[.int .i64 m, .slice o xss.length c] 24)).alloc (.cells #[.int .i64 m', .slice o' yss.length c'] 24)).alloc (.cells #[.int .i64 0, .slice none 0 0] 24))) (by (repeat (first | exact Below.refl _ _ | (refine Below.setCell ?_ (by first | (simp; done) | (simp; omega) | omega) _) | (refine Below.alloc ?_ (by first | (simp; done) | (simp; omega) | omega) _) | (refine below_drewN ?_ _) | (refine Below.drew ?_)))) (Nat.le_refl _); have R0 := ((RB2.mk3 w (.cells #[.int .i64 m, .slice o xss.length c] 24) (.cells #[.int .i64 m', .slice o' yss.length c'] 24) (.int .i64 0) (.slice none 0 0) 24)).below (w' := (((w.alloc (.cells #[.int .i64 m, .slice o xss.length c] 24)).alloc (.cells #[.int .i64 m', .slice o' yss.length c'] 24)).alloc (.cells #[.int .i64 0, .slice none 0 0] 24))) (by (repeat (first | exact Below.refl _ _ | (refine Below.setCell ?_ (by first | (simp; done) | (simp; omega) | omega) _) | (refine Below.alloc ?_ (by first | (simp; done) | (simp; omega) | omega) _) | (refine below_drewN ?_ _) | (refine Below.drew ?_)))) (Nat.le_refl _); have B0 : Below w.heap.size w (((w.alloc (.cells #[.int .i64 m, .slice o xss.length c] 24)).alloc (.cells #[.int .i64 m', .slice o' yss.length c'] 24)).alloc (.cells #[.int .i64 0, .slice none 0 0] 24)) := (by (repeat (first | exact Below.refl _ _ | (refine Below.setCell ?_ (by first | (simp; done) | (simp; omega) | omega) _) | (refine Below.alloc ?_ (by first | (simp; done) | (simp; omega) | omega) _) | (refine below_drewN ?_ _) | (refine Below.drew ?_)))); have hv0 := hv.below (w' := (((w.alloc (.cells #[.int .i64 m, .slice o xss.length c] 24)).alloc (.cells #[.int .i64 m', .slice o' yss.length c'] 24)).alloc (.cells #[.int .i64 0, .slice none 0 0] 24))) (by (repeat (first | exact Below.refl _ _ | (refine Below.setCell ?_ (by first | (simp; done) | (simp; omega) | omega) _) | (refine Below.alloc ?_ (by first | (simp; done) | (simp; omega) | omega) _) | (refine below_drewN ?_ _) | (refine Below.drew ?_)))) (Nat.le_refl _); have hu0 := hu.below (w' := (((w.alloc (.cells #[.int .i64 m, .slice o xss.length c] 24)).alloc (.cells #[.int .i64 m', .slice o' yss.length c'] 24)).alloc (.cells #[.int .i64 0, .slice none 0 0] 24))) (by (repeat (first | exact Below.refl _ _ | (refine Below.setCell ?_ (by first | (simp; done) | (simp; omega) | omega) _) | (refine Below.alloc ?_ (by first | (simp; done) | (simp; omega) | omega) _) | (refine below_drewN ?_ _) | (refine Below.drew ?_)))) (Nat.le_refl _); generalize ((w.alloc (.cells #[.int .i64 m, .slice o xss.length c] 24)).alloc (.cells #[.int .i64 m', .slice o' yss.length c'] 24)).alloc (.cells #[.int .i64 0, .slice none 0 0] 24) = w0 at X0 Y0 R0 B0 hv0 hu0 ⊢)
  obtain ⟨x0, x1⟩ := id X0
  go_wp2_with fail
  refine (mapped2_c 108 _ _ (fun i j => atT xss i j + atT yss i j) m o xss.length c _ h1 hn (by omega) hm' plus1_callable
    (fun i j h => by obtain ⟨_, _, _, _, h1, h2⟩ := HX.out i j h; obtain ⟨_, _, _, _, h3, h4⟩ := HY.out i j h; omega)
    (fun i j w1 h hb => plus1_c i j _ _ xss.length m m' m _ _ xss yss w1 (X0.below hb (Nat.le_refl _)) (Y0.below hb (Nat.le_refl _)) (hv0.below hb (Nat.le_refl _)) (hu0.below hb (Nat.le_refl _)) (HX.out i j h) (HY.out i j h) (by omega))).mono ?_
  rintro e w1 ⟨vz, rfl, how, hb⟩
  obtain ⟨oz, cz, rfl⟩ := how.shapeN (n := xss.length) (tri_len _ _)
  have hB0 := B0.size
  have hRl := R0.1.lt
  (have R1 := R0.below hb (Nat.le_refl _); have B1 := B0.trans (hb.mono B0.size))
  obtain ⟨⟨r0, r1⟩, rf⟩ := id R1
  go_wp2
  refine bodyPost_ret (v := .agg #[.int .i64 m, .slice oz xss.length cz]) (by simp [results, Try.results87, go_sem, r0, r1]) rfl ⟨_, rfl, ?_, ?_⟩
  · exact ((how.low hRl _).low hRl _).mono hB0
  · (repeat (first | exact Below.refl _ _ | (refine Below.setCell ?_ (by first | (simp; done) | (simp; omega) | omega) _) | (refine Below.alloc ?_ (by first | (simp; done) | (simp; omega) | omega) _) | (refine below_drewN ?_ _) | (refine Below.drew ?_) | (refine Below.trans ?_ (Below.mono B1 (by first | (simp; done) | (simp; omega) | omega)))))
end Go.Proofs.Ytoednonijmkbjaa
