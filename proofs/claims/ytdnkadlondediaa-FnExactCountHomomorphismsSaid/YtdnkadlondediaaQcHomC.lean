/- Lemmas of HomC. -/
import Derived.Test.YtdnkadlondediaaQcHomA
set_option linter.unusedSimpArgs false
set_option linter.unusedVariables false
namespace Go.Proofs.Ytdnkadlondediaa
open Go.RowKit

theorem l06All_d (m : Int) (v : Value) (t : List (List Int)) (m1 : Int) (u : Value) (s : List (List Int)) (va : Value) (pre : List Int) (mo : Int) (most : Nat) (w : World) (hmo : mo = (most : Int)) (hv : RdT w v t) (hu : RdT w u s) (ha : RdI w va pre) (h1 : 1 ≤ pre.length) (h2 : pre.length ≤ 2) (h0 : at0 pre 0 = 0) (hx : ∀ x ∈ pre, 0 ≤ x ∧ x < 2) (hm1 : 1 ≤ most) (hm2 : most ≤ 20000) :
    Calls Try.prog 100 #[.agg #[.int .i64 m, v], .agg #[.int .i64 m1, u], va, .int .i64 mo] w fun e w' => ∃ v', e = .returned (.tuple #[v', .int .i64 (allR m t m1 s pre most).code]) ∧ OwS w' w.heap.size v' (allR m t m1 s pre most).xss ∧ Below w.heap.size w w' := by
  subst hmo; exact l06All_c m v t m1 u s va pre most w hv hu ha h1 h2 h0 hx hm1 hm2
theorem lit0_rd (w : World) {b : Nat} (hb : w.heap.size = b) : RdI (w.alloc (.cells #[.int .i64 0] 2)) (.slice (some ⟨b, 0, none⟩) 1 1) [0] := by
  subst hb; exact (OwI.lit w [0] (by decide)).rd
def cntR (m : Int) (t : List (List Int)) (m1 : Int) (s : List (List Int)) : IR := if (allHR m t m1 s).code = 0 then ⟨(allHR m t m1 s).xss.length, 0⟩ else ⟨0, (allHR m t m1 s).code⟩
theorem allHR_len (m : Int) (t : List (List Int)) (m1 : Int) (s : List (List Int)) : (allHR m t m1 s).xss.length ≤ 20000 := by
  unfold allHR
  by_cases hc : twoL m t m1 s = 0
  · rw [if_pos hc]
    obtain ⟨a1, a2, e1, l1⟩ := twoL_0 hc
    have hm := pla_m (lawB_t a1).1
    cases hl : largeB m (t.length - 1) 1
    · rw [if_neg (by simp)]
      exact Nat.le_trans (List.length_filter_le _ _) (by rw [allC_len]; exact few (by omega) hl)
    · simp
  · rw [if_neg hc]; simp

set_option maxHeartbeats 1000000 in
set_option maxRecDepth 100000 in
theorem sCountHomomorphisms_c (m : Int) (v : Value) (t : List (List Int)) (m1 : Int) (u : Value) (s : List (List Int)) (w : World) (hv : RdT w v t) (hu : RdT w u s) :
    Calls Try.prog 38 #[.agg #[.int .i64 m, v], .agg #[.int .i64 m1, u]] w fun e w' => IEnd w w' (cntR m t m1 s) e := by
  obtain ⟨o, c, rfl, -, -⟩ := id hv
  obtain ⟨o1, c1, rfl, -, -⟩ := id hu
  have HR := Lib.hid (show cntR m t m1 s = if (allHR m t m1 s).code = 0 then ⟨(allHR m t m1 s).xss.length, 0⟩ else ⟨0, (allHR m t m1 s).code⟩ from rfl)
  have HA := Lib.hid (allR_0 m t m1 s)
  have hlen := allHR_len m t m1 s
  generalize allHR m t m1 s = r at HR HA hlen
  obtain ⟨rx, rc⟩ := r
  go_enter Try.func38, Try.ntmps38
  go_wp2_with fail
  (have X0 := ((RB2.mk1 w  (.int .i64 m) (.slice o t.length c) 32).1).below (w' := ((w.alloc (.cells #[.int .i64 m, .slice o t.length c] 32)).alloc (.cells #[.int .i64 m1, .slice o1 s.length c1] 32))) (by (repeat (first | exact Below.refl _ _ | (refine Below.setCell ?_ (by first | (simp; done) | (simp; omega) | omega) _) | (refine Below.alloc ?_ (by first | (simp; done) | (simp; omega) | omega) _) | (refine below_drewN ?_ _) | (refine Below.drew ?_)))) (Nat.le_refl _); have Y0 := ((RB2.mk2 w (.cells #[.int .i64 m, .slice o t.length c] 32) (.int .i64 m1) (.slice o1 s.length c1) 32).1).below (w' := ((w.alloc (.cells #[.int .i64 m, .slice o t.length c] 32)).alloc (.cells #[.int .i64 m1, .slice o1 s.length c1] 32))) (by (repeat (first | exact Below.refl _ _ | (refine Below.setCell ?_ (by first | (simp; done) | (simp; omega) | omega) _) | (refine Below.alloc ?_ (by first | (simp; done) | (simp; omega) | omega) _) | (refine below_drewN ?_ _) | (refine Below.drew ?_)))) (Nat.le_refl _); have B0 : Below w.heap.size w ((w.alloc (.cells #[.int .i64 m, .slice o t.length c] 32)).alloc (.cells #[.int .i64 m1, .slice o1 s.length c1] 32)) := (by (repeat (first | exact Below.refl _ _ | (refine Below.setCell ?_ (by first | (simp; done) | (simp; omega) | omega) _) | (refine Below.alloc ?_ (by first | (simp; done) | (simp; omega) | omega) _) | (refine below_drewN ?_ _) | (refine Below.drew ?_)))); have hv0 := hv.below (w' := ((w.alloc (.cells #[.int .i64 m, .slice o t.length c] 32)).alloc (.cells #[.int .i64 m1, .slice o1 s.length c1] 32))) (by (repeat (first | exact Below.refl _ _ | (refine Below.setCell ?_ (by first | (simp; done) | (simp; omega) | omega) _) | (refine Below.alloc ?_ (by first | (simp; done) | (simp; omega) | omega) _) | (refine below_drewN ?_ _) | (refine Below.drew ?_)))) (Nat.le_refl _); have hu0 := hu.below (w' := ((w.alloc (.cells #[.int .i64 m, .slice o t.length c] 32)).alloc (.cells #[.int .i64 m1, .slice o1 s.length c1] 32))) (by (repeat (first | exact Below.refl _ _ | (refine Below.setCell ?_ (by first | (simp; done) | (simp; omega) | omega) _) | (refine Below.alloc ?_ (by first | (simp; done) | (simp; omega) | omega) _) | (refine below_drewN ?_ _) | (refine Below.drew ?_)))) (Nat.le_refl _); have HS0 := Lib.hid (show ((w.alloc (.cells #[.int .i64 m, .slice o t.length c] 32)).alloc (.cells #[.int .i64 m1, .slice o1 s.length c1] 32)).heap.size = w.heap.size + 1 + 1 by simp); generalize (w.alloc (.cells #[.int .i64 m, .slice o t.length c] 32)).alloc (.cells #[.int .i64 m1, .slice o1 s.length c1] 32) = w0 at X0 Y0 B0 hv0 hu0 HS0 ⊢)
  obtain ⟨x0, x1⟩ := id X0
  obtain ⟨y0, y1⟩ := id Y0
  go_wp2_with fail
  have hzb : Below w0.heap.size w0 (w0.alloc (.cells #[.int .i64 0] 2)) := (by (repeat (first | exact Below.refl _ _ | (refine Below.setCell ?_ (by first | (simp; done) | (simp; omega) | omega) _) | (refine Below.alloc ?_ (by first | (simp; done) | (simp; omega) | omega) _) | (refine below_drewN ?_ _) | (refine Below.drew ?_))))
  refine (l06All_d m _ t m1 _ s _ [0] _ 20000 _ (by omega) (hv0.below hzb (Nat.le_refl _)) (hu0.below hzb (Nat.le_refl _)) (lit0_rd w0 HS0.out) (by simp) (by simp) (by simp [at0]) (by simp) (by omega) (by omega)).mono ?_
  rw [HA.out]
  rintro e w1 ⟨vl, rfl, how, hb⟩
  have hb1 : Below w0.heap.size w0 w1 := (by (repeat (first | exact Below.refl _ _ | (refine Below.setCell ?_ (by first | (simp; done) | (simp; omega) | omega) _) | (refine Below.alloc ?_ (by first | (simp; done) | (simp; omega) | omega) _) | (refine below_drewN ?_ _) | (refine Below.drew ?_) | (refine Below.trans ?_ (Below.mono hb (by first | (simp; done) | (simp; omega) | omega))))))
  have B1 := B0.trans (hb1.mono B0.size)
  obtain ⟨ol, cl, rfl⟩ := how.shape
  clear HS0 x0 x1 y0 y1 hzb hb hb1
  by_cases hc : rc = 0
  · subst hc
    go_wp2
    go_ret2
    rw [HR.out]
    exact ⟨rfl, B1⟩
  · have hcc : (rc != 0) = true := by simpa using hc
    have HR2 := Lib.hid (show cntR m t m1 s = ⟨0, rc⟩ by rw [HR.out, if_neg hc])
    clear hc
    go_wp2
    go_ret2
    rw [HR2.out]
    exact ⟨rfl, B1⟩

end Go.Proofs.Ytdnkadlondediaa
