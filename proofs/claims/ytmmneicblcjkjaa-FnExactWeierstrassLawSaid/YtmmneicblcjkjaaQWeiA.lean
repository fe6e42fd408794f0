/- Lemmas of WeiA. -/
import Derived.Test.YtmmneicblcjkjaaQPlaO
import Derived.Test.YtmmneicblcjkjaaQWeiT
import Derived.Test.YtmmneicblcjkjaaQSRev
set_option linter.unusedSimpArgs false
set_option linter.unusedVariables false
namespace Go.Proofs.Ytmmneicblcjkjaa
open Go.RowKit

theorem scaT_eq (m c : Int) (n : Nat) (t : List (List Int)) : tri n (fun i j => (c % m * atT t i j % m) % m) = scaT m n c t := by
  unfold scaT
  refine tri_ext fun i j _ => ?_
  rw [mod_self_mod]
  exact emod_congr_mul (mod_self_mod _ _) rfl

set_option maxHeartbeats 1000000 in
theorem scaledP1_c (i j b0 b1 n : Nat) (m c : Int) (v : Value) (xss : List (List Int)) (w : World) (X : Box2 w b0 (.int .i64 m) v) (K : Cel1 w b1 0 (.int .i64 c)) (hv : RdT w v xss) (hm : 2 ≤ m) (hm' : m ≤ 10000) (hc : -1000000000000 ≤ c) (hc' : c ≤ 1000000000000)
    (hx : ∃ row, xss[i]? = some row ∧ row[j]? = some (atT xss i j) ∧ row.length = n - i ∧ 0 ≤ atT xss i j ∧ atT xss i j < m) :
    Calls Try.prog 64 #[.int .i64 i, .int .i64 j, .pointer (some ⟨b0, 0, none⟩), .pointer (some ⟨b1, 0, none⟩)] w fun e w' => e = .returned (.int .i64 (c % m * atT xss i j % m)) ∧ ∃ d, w' = w.drewN d := by
  obtain ⟨r1, hr1, hr1j, hl1, hx0, hx1⟩ := hx
  obtain ⟨o1, c1, rfl, hm1, -⟩ := id hv
  have kk := K.get
  have a1 := (List.getElem?_eq_some_iff.1 hr1).1
  have a3 := (List.getElem?_eq_some_iff.1 hr1j).1
  obtain ⟨bx, fx, rfl, -⟩ := hv.rows (by omega)
  obtain ⟨p1, q1, cx, rx⟩ := hv.row hr1
  obtain ⟨bp, fp, rfl, -⟩ := rx.cells (by omega)
  have ex := rx.cell0 hr1j
  obtain ⟨x0, x1⟩ := X
  have i0 : (0 : Int) ≤ (i : Int) := by omega
  have j0 : (0 : Int) ≤ (j : Int) := by omega
  have i1 : (i : Int) < (xss.length : Int) := by omega
  have j1 : (j : Int) < (r1.length : Int) := by omega
  have hmd := mod_lt' (a := c) (show 0 < m by omega)
  clear hr1 hr1j
  go_enter Try.func64, Try.ntmps64
  go_wp2
  go_quiet (first | (go_at_call 60; (first | exact quietA (rfl) (mod_c c m _ (by omega) (by omega) (by omega) (by omega)) | exact quietB (rfl) (mod_c c m _ (by omega) (by omega) (by omega) (by omega)) | exact quietC (rfl) (mod_c c m _ (by omega) (by omega) (by omega) (by omega)) | exact quietD (rfl) (mod_c c m _ (by omega) (by omega) (by omega) (by omega)))) | (go_at_call 63; (first | exact quietA (rfl) (mul_c m (c % m) (atT xss i j) _ (by omega) (by omega) (by omega) (by omega) (by omega) (by omega)) | exact quietB (rfl) (mul_c m (c % m) (atT xss i j) _ (by omega) (by omega) (by omega) (by omega) (by omega) (by omega)) | exact quietC (rfl) (mul_c m (c % m) (atT xss i j) _ (by omega) (by omega) (by omega) (by omega) (by omega) (by omega)) | exact quietD (rfl) (mul_c m (c % m) (atT xss i j) _ (by omega) (by omega) (by omega) (by omega) (by omega) (by omega)))))
  go_wp2
  go_ret
  exact ⟨rfl, _, rfl⟩
theorem scaledP1_callable : Callable 64 := fun args w => Try.call64 args w

set_option maxHeartbeats 1000000 in
set_option maxRecDepth 100000 in
theorem scaledP_c (m c : Int) (v : Value) (xss : List (List Int)) (w : World) (hv : RdT w v xss) (h1 : 1 ≤ xss.length) (hn : xss.length ≤ 1000) (hm : 2 ≤ m) (hm' : m ≤ 10000) (hc : -1000000000000 ≤ c) (hc' : c ≤ 1000000000000)
    (hx : ∀ i (hi : i < xss.length), xss[i].length = xss.length - i ∧ ∀ x ∈ xss[i], 0 ≤ x ∧ x < m) :
    Calls Try.prog 39 #[.agg #[.int .i64 m, v], .int .i64 c] w fun e w' => PVEnd w w' m (scaT m xss.length c xss) e := by
  obtain ⟨o, cc, rfl, hmx, -⟩ := id hv
  have HX := Lib.hid (fun i j (h : i + j < xss.length) => pla_at rfl hx h)
  clear hx hmx
  have HE := Lib.hid (scaT_eq m c xss.length xss)
  rw [← HE.out]
  have hmd : ∀ i j, i + j < xss.length → -9000000000000000000 ≤ c % m * atT xss i j % m ∧ c % m * atT xss i j % m ≤ 9000000000000000000 := fun i j _ => by
    have := mod_lt' (a := c % m * atT xss i j) (show 0 < m by omega)
    omega
  have entry : ∀ W, W = ((w.alloc (.cells #[.int .i64 m, .slice o xss.length cc] 25)).alloc (.cells #[.int .i64 c] 2)).alloc (.cells #[.int .i64 0, .slice none 0 0] 25) →
      Box2 W w.heap.size (.int .i64 m) (.slice o xss.length cc) ∧ Cel1 W (w.heap.size + 1) 0 (.int .i64 c) ∧ RB2 W (w.heap.size + 1 + 1) (.int .i64 0) (.slice none 0 0) ∧ RdT W (.slice o xss.length cc) xss ∧ Below w.heap.size w W := by
    rintro W rfl
    have hb : Below w.heap.size w (((w.alloc (.cells #[.int .i64 m, .slice o xss.length cc] 25)).alloc (.cells #[.int .i64 c] 2)).alloc (.cells #[.int .i64 0, .slice none 0 0] 25)) := (by (repeat (first | exact Below.refl _ _ | (refine Below.setCell ?_ (by first | (simp; done) | (simp; omega) | omega) _) | (refine Below.alloc ?_ (by first | (simp; done) | (simp; omega) | omega) _) | (refine below_drewN ?_ _) | (refine Below.drew ?_))))
    have hX : Box2 (((w.alloc (.cells #[.int .i64 m, .slice o xss.length cc] 25)).alloc (.cells #[.int .i64 c] 2)).alloc (.cells #[.int .i64 0, .slice none 0 0] 25)) w.heap.size (.int .i64 m) (.slice o xss.length cc) := (Box2.mk' w _ _ 25).below (w' := ((w.alloc (.cells #[.int .i64 m, .slice o xss.length cc] 25)).alloc (.cells #[.int .i64 c] 2)).alloc (.cells #[.int .i64 0, .slice none 0 0] 25)) (by (repeat (first | exact Below.refl _ _ | (refine Below.setCell ?_ (by first | (simp; done) | (simp; omega) | omega) _) | (refine Below.alloc ?_ (by first | (simp; done) | (simp; omega) | omega) _) | (refine below_drewN ?_ _) | (refine Below.drew ?_)))) (Nat.le_refl _)
    have hK0 : ((w.alloc (.cells #[.int .i64 m, .slice o xss.length cc] 25)).alloc (.cells #[.int .i64 c] 2)).cell? ⟨(w.alloc (.cells #[.int .i64 m, .slice o xss.length cc] 25)).heap.size, 0, none⟩ = some (.int .i64 c) := by simp
    have hK := keep_cell (w' := ((w.alloc (.cells #[.int .i64 m, .slice o xss.length cc] 25)).alloc (.cells #[.int .i64 c] 2)).alloc (.cells #[.int .i64 0, .slice none 0 0] 25)) (B := ((w.alloc (.cells #[.int .i64 m, .slice o xss.length cc] 25)).alloc (.cells #[.int .i64 c] 2)).heap.size) (by (repeat (first | exact Below.refl _ _ | (refine Below.setCell ?_ (by first | (simp; done) | (simp; omega) | omega) _) | (refine Below.alloc ?_ (by first | (simp; done) | (simp; omega) | omega) _) | (refine below_drewN ?_ _) | (refine Below.drew ?_)))) (Nat.le_refl _) hK0
    rw [show (w.alloc (.cells #[.int .i64 m, .slice o xss.length cc] 25)).heap.size = w.heap.size + 1 by simp] at hK
    exact ⟨hX, ⟨hK⟩, RB2.mk3 w _ _ _ _ _, hv.below hb (Nat.le_refl _), hb⟩
  go_enter Try.func39, Try.ntmps39
  go_wp2_with fail
  obtain ⟨X0, K0, R0, hv0, B0⟩ := entry _ rfl
  generalize ((w.alloc (.cells #[.int .i64 m, .slice o xss.length cc] 25)).alloc (.cells #[.int .i64 c] 2)).alloc (.cells #[.int .i64 0, .slice none 0 0] 25) = w0 at X0 K0 R0 hv0 B0 ⊢
  clear entry
  obtain ⟨x0, x1⟩ := id X0
  go_wp2_with fail
  refine (mapped2_c 64 _ _ (fun i j => c % m * atT xss i j % m) m o xss.length cc _ h1 hn (by omega) (by omega) scaledP1_callable hmd
    (fun i j w1 h hb => scaledP1_c i j _ _ xss.length m c _ xss w1 (X0.below hb (Nat.le_refl _)) (K0.below hb (Nat.le_refl _)) (hv0.below hb (Nat.le_refl _)) (by omega) (by omega) (by omega) (by omega) (HX.out i j h))).mono ?_
  rintro e w1 ⟨vz, rfl, how, hb⟩
  obtain ⟨oz, cz, rfl⟩ := how.shapeN (n := xss.length) (tri_len _ _)
  have hB0 := B0.size
  have hRl := R0.1.lt
  (have R1 := R0.below hb (Nat.le_refl _); have B1 := B0.trans (hb.mono B0.size))
  obtain ⟨⟨r0, r1⟩, rf⟩ := id R1
  clear x0 x1
  go_wp2
  refine bodyPost_ret (v := .agg #[.int .i64 m, .slice oz xss.length cz]) (by simp [results, Try.results39, go_sem, r0, r1]) rfl ⟨_, rfl, ?_, ?_⟩
  · exact ((how.low hRl _).low hRl _).mono hB0
  · (repeat (first | exact Below.refl _ _ | (refine Below.setCell ?_ (by first | (simp; done) | (simp; omega) | omega) _) | (refine Below.alloc ?_ (by first | (simp; done) | (simp; omega) | omega) _) | (refine below_drewN ?_ _) | (refine Below.drew ?_) | (refine Below.trans ?_ (Below.mono B1 (by first | (simp; done) | (simp; omega) | omega)))))
end Go.Proofs.Ytmmneicblcjkjaa
