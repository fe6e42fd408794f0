/- Lemmas. -/
import Derived.Test.YtfpphfjlpgefaaaGreatQLM13
import Derived.Test.YtfpphfjlpgefaaaGreatQLCurv
set_option maxHeartbeats 2000000
set_option maxRecDepth 100000
set_option linter.unusedSimpArgs false
set_option linter.unusedVariables false
namespace Go.Proofs.YtfpphfjlpgefaaaGreat
open Go.RowKit

def sumUR (m : Int) (t : List (List Int)) (m1 : Int) (xs : List Int) (m2 : Int) (ys : List Int) : SR := if curC m t [(m1, xs), (m2, ys)] = 0 then ⟨m, putL m t.length t xs ys, 0⟩ else SR.bad (curC m t [(m1, xs), (m2, ys)])
def diffUR (m : Int) (t : List (List Int)) (m1 : Int) (xs : List Int) (m2 : Int) (ys : List Int) : SR := if curC m t [(m1, xs), (m2, ys)] = 0 then ⟨m, putL m t.length t xs (horn m t.length ys (invL m t.length t)), 0⟩ else SR.bad (curC m t [(m1, xs), (m2, ys)])
theorem SumUnder_c (m : Int) (v : Value) (t : List (List Int)) (m1 : Int) (u : Value) (xs : List Int) (m2 : Int) (u' : Value) (ys : List Int) (w : World) (hv : RdT w v t) (hu : RdI w u xs) (hu' : RdI w u' ys) :
  Calls Tryz.prog 13 #[.agg #[.int .i64 m, v], .agg #[.int .i64 m1, u], .agg #[.int .i64 m2, u']] w fun e w' => SEnd w w' (sumUR m t m1 xs m2 ys) e := by
 obtain ⟨o, c, rfl, -, -⟩ := id hv
 obtain ⟨o1, c1, rfl, -, -⟩ := id hu
 obtain ⟨o2, c2, rfl, -, -⟩ := id hu'
 by_cases hc : curC m t [(m1, xs), (m2, ys)] = 0
 ·obtain ⟨a1, a2⟩ := curC_0 hc
  obtain ⟨s1, e1, l1, -⟩ := a2 (m1, xs) (by simp)
  obtain ⟨s2, e2, l2, -⟩ := a2 (m2, ys) (by simp)
  replace s1 : serB m1 xs = true := s1
  replace l1 : xs.length = t.length := l1
  replace e1 : m = m1 := e1.symm
  replace s2 : serB m2 ys = true := s2
  replace l2 : ys.length = t.length := l2
  replace e2 : m = m2 := e2.symm
  subst e1 e2
  have hR : sumUR m t m xs m ys = ⟨m, putL m t.length t xs ys, 0⟩ := by simp [sumUR, hc]
  rw [hR]
  clear hR a2
  have hp := (lawB_t a1).1
  have hn := pla_n hp
  have hm := pla_m hp
  have hx := ser_x s1
  have hy := ser_x s2
  have HC := Lib.hid hc
  have HT := Lib.hid (show PlaT m t.length t from ⟨rfl, pla_row hp⟩)
  have HLX := Lib.hid l1
  have HLY := Lib.hid l2
  have hlen : (putL m t.length t xs ys).length ≤ 1048576 := by rw [show (putL m t.length t xs ys).length = t.length from putTo_len _ _ _ _ _ _ _]; omega
  have hcc : ((0 : Int) != 0) = false := by simp
  clear hc a1 hp s1 l1 s2 l2
  go_enter Tryz.func13, Tryz.ntmps13
  go_wp2_with fail
  (have X0 := ((RB2.mk1 w  (.int .i64 m) (.slice o t.length c) 26).1).below (w' := ((((w.alloc (.cells #[.int .i64 m, .slice o t.length c] 26)).alloc (.cells #[.int .i64 m, .slice o1 xs.length c1] 34)).alloc (.cells #[.int .i64 m, .slice o2 ys.length c2] 34)).alloc (.cells #[.int .i64 0, .slice none 0 0] 34))) bZ (nl _); have Y0 := ((RB2.mk2 w (.cells #[.int .i64 m, .slice o t.length c] 26) (.int .i64 m) (.slice o1 xs.length c1) 34).1).below (w' := ((((w.alloc (.cells #[.int .i64 m, .slice o t.length c] 26)).alloc (.cells #[.int .i64 m, .slice o1 xs.length c1] 34)).alloc (.cells #[.int .i64 m, .slice o2 ys.length c2] 34)).alloc (.cells #[.int .i64 0, .slice none 0 0] 34))) bZ (nl _); have Z0 := ((RB2.mk3 w (.cells #[.int .i64 m, .slice o t.length c] 26) (.cells #[.int .i64 m, .slice o1 xs.length c1] 34) (.int .i64 m) (.slice o2 ys.length c2) 34).1).below (w' := ((((w.alloc (.cells #[.int .i64 m, .slice o t.length c] 26)).alloc (.cells #[.int .i64 m, .slice o1 xs.length c1] 34)).alloc (.cells #[.int .i64 m, .slice o2 ys.length c2] 34)).alloc (.cells #[.int .i64 0, .slice none 0 0] 34))) bZ (nl _); have R0 := ((RB2.mk4 w (.cells #[.int .i64 m, .slice o t.length c] 26) (.cells #[.int .i64 m, .slice o1 xs.length c1] 34) (.cells #[.int .i64 m, .slice o2 ys.length c2] 34) (.int .i64 0) (.slice none 0 0) 34)).below (w' := ((((w.alloc (.cells #[.int .i64 m, .slice o t.length c] 26)).alloc (.cells #[.int .i64 m, .slice o1 xs.length c1] 34)).alloc (.cells #[.int .i64 m, .slice o2 ys.length c2] 34)).alloc (.cells #[.int .i64 0, .slice none 0 0] 34))) bZ (nl _); have B0 : Below w.heap.size w ((((w.alloc (.cells #[.int .i64 m, .slice o t.length c] 26)).alloc (.cells #[.int .i64 m, .slice o1 xs.length c1] 34)).alloc (.cells #[.int .i64 m, .slice o2 ys.length c2] 34)).alloc (.cells #[.int .i64 0, .slice none 0 0] 34)) := bZ; have hv0 := hv.below (w' := ((((w.alloc (.cells #[.int .i64 m, .slice o t.length c] 26)).alloc (.cells #[.int .i64 m, .slice o1 xs.length c1] 34)).alloc (.cells #[.int .i64 m, .slice o2 ys.length c2] 34)).alloc (.cells #[.int .i64 0, .slice none 0 0] 34))) bZ (nl _); have hu0 := hu.below (w' := ((((w.alloc (.cells #[.int .i64 m, .slice o t.length c] 26)).alloc (.cells #[.int .i64 m, .slice o1 xs.length c1] 34)).alloc (.cells #[.int .i64 m, .slice o2 ys.length c2] 34)).alloc (.cells #[.int .i64 0, .slice none 0 0] 34))) bZ (nl _); have hu'0 := hu'.below (w' := ((((w.alloc (.cells #[.int .i64 m, .slice o t.length c] 26)).alloc (.cells #[.int .i64 m, .slice o1 xs.length c1] 34)).alloc (.cells #[.int .i64 m, .slice o2 ys.length c2] 34)).alloc (.cells #[.int .i64 0, .slice none 0 0] 34))) bZ (nl _); have HS0 := Lib.hid (show ((((w.alloc (.cells #[.int .i64 m, .slice o t.length c] 26)).alloc (.cells #[.int .i64 m, .slice o1 xs.length c1] 34)).alloc (.cells #[.int .i64 m, .slice o2 ys.length c2] 34)).alloc (.cells #[.int .i64 0, .slice none 0 0] 34)).heap.size = w.heap.size + 1 + 1 + 1 + 1 by simp); generalize (((w.alloc (.cells #[.int .i64 m, .slice o t.length c] 26)).alloc (.cells #[.int .i64 m, .slice o1 xs.length c1] 34)).alloc (.cells #[.int .i64 m, .slice o2 ys.length c2] 34)).alloc (.cells #[.int .i64 0, .slice none 0 0] 34) = w0 at X0 Y0 Z0 R0 B0 hv0 hu0 hu'0 HS0 ⊢)
  obtain ⟨x0, x1⟩ := id X0
  obtain ⟨y0, y1⟩ := id Y0
  obtain ⟨z0, z1⟩ := id Z0
  go_wp2_with fail
  have hzb : Below w0.heap.size w0 (w0.alloc (.cells #[.int .i64 m, .slice o1 xs.length c1, .int .i64 m, .slice o2 ys.length c2] 34)) := bZ
  refine (curved_c m _ _ t [(m, xs), (m, ys)] _ (hv0.below hzb (nl _)) (RdM.lit2c w0 HS0.out m m _ _ xs ys hu0 hu'0)).mono ?_
  clear hzb
  rw [HC.out]
  rintro e w1 ⟨rfl, hb⟩
  have hb := (show Below w0.heap.size w0 w1 from (by (repeat (first | exact bR _ _ | (refine bS ?_ _) | (refine bA ?_ _) | (refine bN ?_ _) | (refine bD ?_) | (refine bT ?_ hb)))))
  clear x0 x1 y0 y1 z0 z1 HS0
  (have X1 := X0.below hb (nl _); have Y1 := Y0.below hb (nl _); have Z1 := Z0.below hb (nl _); have R1 := R0.below hb (nl _); have hv1 := hv0.below hb (nl _); have hu1 := hu0.below hb (nl _); have hu'1 := hu'0.below hb (nl _); have B1 := B0.trans (hb.mono B0.size))
  clear hb
  (obtain ⟨gqX0, gqX1⟩ := id X1; obtain ⟨gqY0, gqY1⟩ := id Y1; obtain ⟨gqZ0, gqZ1⟩ := id Z1; go_wp2_with fail; refine (curvesP_c m m t.length _ _ _ t xs ys _ hv1 hu1 hu'1 HLX.out HLY.out (by omega) (by omega) (by omega) (by omega) HT.out hx hy).mono ?_; rintro e w2 ⟨vR, rfl, how, hb⟩; obtain ⟨oV, cV, rfl⟩ := how.shapeN (n := t.length) (putTo_len _ _ _ _ _ _ _); have hz := R1.1.lt; have hB := B1.size; (have R2 := R1.below hb (nl _); have B2 := B1.trans (hb.mono B1.size)); obtain ⟨⟨r0, r1⟩, rf⟩ := id R2; go_wp2; exact bodyPost_ret (v := .tuple #[.agg #[.int .i64 m, .slice oV t.length cV], .int .i64 0]) (by simp [results, Tryz.results13, go_sem, r0, r1]) rfl ⟨_, rfl, ((how.low hz _).low hz _).mono hB, (by (repeat (first | exact bR _ _ | (refine bS ?_ _) | (refine bA ?_ _) | (refine bN ?_ _) | (refine bD ?_) | (refine bT ?_ B2)))), hlen⟩)
 ·have hR : sumUR m t m1 xs m2 ys = SR.bad (curC m t [(m1, xs), (m2, ys)]) := by simp [sumUR, hc]
  rw [hR]
  clear hR
  obtain ⟨cc, hcc0⟩ : ∃ cc, curC m t [(m1, xs), (m2, ys)] = cc := ⟨_, rfl⟩
  rw [hcc0] at hc ⊢
  have HC := Lib.hid hcc0
  clear hcc0
  have hcc : (cc != 0) = true := by simpa using hc
  clear hc
  go_enter Tryz.func13, Tryz.ntmps13
  go_wp2_with fail
  (have X0 := ((RB2.mk1 w  (.int .i64 m) (.slice o t.length c) 26).1).below (w' := ((((w.alloc (.cells #[.int .i64 m, .slice o t.length c] 26)).alloc (.cells #[.int .i64 m1, .slice o1 xs.length c1] 34)).alloc (.cells #[.int .i64 m2, .slice o2 ys.length c2] 34)).alloc (.cells #[.int .i64 0, .slice none 0 0] 34))) bZ (nl _); have Y0 := ((RB2.mk2 w (.cells #[.int .i64 m, .slice o t.length c] 26) (.int .i64 m1) (.slice o1 xs.length c1) 34).1).below (w' := ((((w.alloc (.cells #[.int .i64 m, .slice o t.length c] 26)).alloc (.cells #[.int .i64 m1, .slice o1 xs.length c1] 34)).alloc (.cells #[.int .i64 m2, .slice o2 ys.length c2] 34)).alloc (.cells #[.int .i64 0, .slice none 0 0] 34))) bZ (nl _); have Z0 := ((RB2.mk3 w (.cells #[.int .i64 m, .slice o t.length c] 26) (.cells #[.int .i64 m1, .slice o1 xs.length c1] 34) (.int .i64 m2) (.slice o2 ys.length c2) 34).1).below (w' := ((((w.alloc (.cells #[.int .i64 m, .slice o t.length c] 26)).alloc (.cells #[.int .i64 m1, .slice o1 xs.length c1] 34)).alloc (.cells #[.int .i64 m2, .slice o2 ys.length c2] 34)).alloc (.cells #[.int .i64 0, .slice none 0 0] 34))) bZ (nl _); have R0 := ((RB2.mk4 w (.cells #[.int .i64 m, .slice o t.length c] 26) (.cells #[.int .i64 m1, .slice o1 xs.length c1] 34) (.cells #[.int .i64 m2, .slice o2 ys.length c2] 34) (.int .i64 0) (.slice none 0 0) 34)).below (w' := ((((w.alloc (.cells #[.int .i64 m, .slice o t.length c] 26)).alloc (.cells #[.int .i64 m1, .slice o1 xs.length c1] 34)).alloc (.cells #[.int .i64 m2, .slice o2 ys.length c2] 34)).alloc (.cells #[.int .i64 0, .slice none 0 0] 34))) bZ (nl _); have B0 : Below w.heap.size w ((((w.alloc (.cells #[.int .i64 m, .slice o t.length c] 26)).alloc (.cells #[.int .i64 m1, .slice o1 xs.length c1] 34)).alloc (.cells #[.int .i64 m2, .slice o2 ys.length c2] 34)).alloc (.cells #[.int .i64 0, .slice none 0 0] 34)) := bZ; have hv0 := hv.below (w' := ((((w.alloc (.cells #[.int .i64 m, .slice o t.length c] 26)).alloc (.cells #[.int .i64 m1, .slice o1 xs.length c1] 34)).alloc (.cells #[.int .i64 m2, .slice o2 ys.length c2] 34)).alloc (.cells #[.int .i64 0, .slice none 0 0] 34))) bZ (nl _); have hu0 := hu.below (w' := ((((w.alloc (.cells #[.int .i64 m, .slice o t.length c] 26)).alloc (.cells #[.int .i64 m1, .slice o1 xs.length c1] 34)).alloc (.cells #[.int .i64 m2, .slice o2 ys.length c2] 34)).alloc (.cells #[.int .i64 0, .slice none 0 0] 34))) bZ (nl _); have hu'0 := hu'.below (w' := ((((w.alloc (.cells #[.int .i64 m, .slice o t.length c] 26)).alloc (.cells #[.int .i64 m1, .slice o1 xs.length c1] 34)).alloc (.cells #[.int .i64 m2, .slice o2 ys.length c2] 34)).alloc (.cells #[.int .i64 0, .slice none 0 0] 34))) bZ (nl _); have HS0 := Lib.hid (show ((((w.alloc (.cells #[.int .i64 m, .slice o t.length c] 26)).alloc (.cells #[.int .i64 m1, .slice o1 xs.length c1] 34)).alloc (.cells #[.int .i64 m2, .slice o2 ys.length c2] 34)).alloc (.cells #[.int .i64 0, .slice none 0 0] 34)).heap.size = w.heap.size + 1 + 1 + 1 + 1 by simp); generalize (((w.alloc (.cells #[.int .i64 m, .slice o t.length c] 26)).alloc (.cells #[.int .i64 m1, .slice o1 xs.length c1] 34)).alloc (.cells #[.int .i64 m2, .slice o2 ys.length c2] 34)).alloc (.cells #[.int .i64 0, .slice none 0 0] 34) = w0 at X0 Y0 Z0 R0 B0 hv0 hu0 hu'0 HS0 ⊢)
  obtain ⟨x0, x1⟩ := id X0
  obtain ⟨y0, y1⟩ := id Y0
  obtain ⟨z0, z1⟩ := id Z0
  go_wp2_with fail
  have hzb : Below w0.heap.size w0 (w0.alloc (.cells #[.int .i64 m1, .slice o1 xs.length c1, .int .i64 m2, .slice o2 ys.length c2] 34)) := bZ
  refine (curved_c m _ _ t [(m1, xs), (m2, ys)] _ (hv0.below hzb (nl _)) (RdM.lit2c w0 HS0.out m1 m2 _ _ xs ys hu0 hu'0)).mono ?_
  clear hzb
  rw [HC.out]
  rintro e w1 ⟨rfl, hb⟩
  have hb := (show Below w0.heap.size w0 w1 from (by (repeat (first | exact bR _ _ | (refine bS ?_ _) | (refine bA ?_ _) | (refine bN ?_ _) | (refine bD ?_) | (refine bT ?_ hb)))))
  clear x0 x1 y0 y1 z0 z1 HS0
  (have R1 := R0.below hb (nl _); have B1 := B0.trans (hb.mono B0.size))
  clear hb
  (obtain ⟨⟨r0, r1⟩, rf⟩ := id R1; go_wp2; exact bodyPost_ret (v := .tuple #[.agg #[.int .i64 0, .slice none 0 0], .int .i64 cc]) (by simp [results, Tryz.results13, go_sem, r0, r1]) rfl ⟨_, rfl, OwI.nil _ _, (by (repeat (first | exact bR _ _ | (refine bS ?_ _) | (refine bA ?_ _) | (refine bN ?_ _) | (refine bD ?_) | (refine bT ?_ B1)))), by simp [SR.bad]⟩)
theorem sSumUnder_c (m : Int) (v : Value) (t : List (List Int)) (m1 : Int) (u : Value) (xs : List Int) (m2 : Int) (u' : Value) (ys : List Int) (w : World) (hv : RdT w v t) (hu : RdI w u xs) (hu' : RdI w u' ys) :
  Calls Tryz.prog 14 #[.agg #[.int .i64 m, v], .agg #[.int .i64 m1, u], .agg #[.int .i64 m2, u']] w fun e w' => SEnd w w' (sumUR m t m1 xs m2 ys) e := by
 obtain ⟨o, c, rfl, -, -⟩ := id hv
 obtain ⟨o1, c1, rfl, -, -⟩ := id hu
 obtain ⟨o2, c2, rfl, -, -⟩ := id hu'
 by_cases hc : curC m t [(m1, xs), (m2, ys)] = 0
 ·obtain ⟨a1, a2⟩ := curC_0 hc
  obtain ⟨s1, e1, l1, -⟩ := a2 (m1, xs) (by simp)
  obtain ⟨s2, e2, l2, -⟩ := a2 (m2, ys) (by simp)
  replace s1 : serB m1 xs = true := s1
  replace l1 : xs.length = t.length := l1
  replace e1 : m = m1 := e1.symm
  replace s2 : serB m2 ys = true := s2
  replace l2 : ys.length = t.length := l2
  replace e2 : m = m2 := e2.symm
  subst e1 e2
  have hR : sumUR m t m xs m ys = ⟨m, putL m t.length t xs ys, 0⟩ := by simp [sumUR, hc]
  rw [hR]
  clear hR a2
  have hp := (lawB_t a1).1
  have hn := pla_n hp
  have hm := pla_m hp
  have hx := ser_x s1
  have hy := ser_x s2
  have HC := Lib.hid hc
  have HT := Lib.hid (show PlaT m t.length t from ⟨rfl, pla_row hp⟩)
  have HLX := Lib.hid l1
  have HLY := Lib.hid l2
  have hlen : (putL m t.length t xs ys).length ≤ 1048576 := by rw [show (putL m t.length t xs ys).length = t.length from putTo_len _ _ _ _ _ _ _]; omega
  have hcc : ((0 : Int) != 0) = false := by simp
  clear hc a1 hp s1 l1 s2 l2
  go_enter Tryz.func14, Tryz.ntmps14
  go_wp2_with fail
  (have X0 := ((RB2.mk1 w  (.int .i64 m) (.slice o t.length c) 26).1).below (w' := ((((w.alloc (.cells #[.int .i64 m, .slice o t.length c] 26)).alloc (.cells #[.int .i64 m, .slice o1 xs.length c1] 34)).alloc (.cells #[.int .i64 m, .slice o2 ys.length c2] 34)).alloc (.cells #[.int .i64 0, .slice none 0 0] 34))) bZ (nl _); have Y0 := ((RB2.mk2 w (.cells #[.int .i64 m, .slice o t.length c] 26) (.int .i64 m) (.slice o1 xs.length c1) 34).1).below (w' := ((((w.alloc (.cells #[.int .i64 m, .slice o t.length c] 26)).alloc (.cells #[.int .i64 m, .slice o1 xs.length c1] 34)).alloc (.cells #[.int .i64 m, .slice o2 ys.length c2] 34)).alloc (.cells #[.int .i64 0, .slice none 0 0] 34))) bZ (nl _); have Z0 := ((RB2.mk3 w (.cells #[.int .i64 m, .slice o t.length c] 26) (.cells #[.int .i64 m, .slice o1 xs.length c1] 34) (.int .i64 m) (.slice o2 ys.length c2) 34).1).below (w' := ((((w.alloc (.cells #[.int .i64 m, .slice o t.length c] 26)).alloc (.cells #[.int .i64 m, .slice o1 xs.length c1] 34)).alloc (.cells #[.int .i64 m, .slice o2 ys.length c2] 34)).alloc (.cells #[.int .i64 0, .slice none 0 0] 34))) bZ (nl _); have R0 := ((RB2.mk4 w (.cells #[.int .i64 m, .slice o t.length c] 26) (.cells #[.int .i64 m, .slice o1 xs.length c1] 34) (.cells #[.int .i64 m, .slice o2 ys.length c2] 34) (.int .i64 0) (.slice none 0 0) 34)).below (w' := ((((w.alloc (.cells #[.int .i64 m, .slice o t.length c] 26)).alloc (.cells #[.int .i64 m, .slice o1 xs.length c1] 34)).alloc (.cells #[.int .i64 m, .slice o2 ys.length c2] 34)).alloc (.cells #[.int .i64 0, .slice none 0 0] 34))) bZ (nl _); have B0 : Below w.heap.size w ((((w.alloc (.cells #[.int .i64 m, .slice o t.length c] 26)).alloc (.cells #[.int .i64 m, .slice o1 xs.length c1] 34)).alloc (.cells #[.int .i64 m, .slice o2 ys.length c2] 34)).alloc (.cells #[.int .i64 0, .slice none 0 0] 34)) := bZ; have hv0 := hv.below (w' := ((((w.alloc (.cells #[.int .i64 m, .slice o t.length c] 26)).alloc (.cells #[.int .i64 m, .slice o1 xs.length c1] 34)).alloc (.cells #[.int .i64 m, .slice o2 ys.length c2] 34)).alloc (.cells #[.int .i64 0, .slice none 0 0] 34))) bZ (nl _); have hu0 := hu.below (w' := ((((w.alloc (.cells #[.int .i64 m, .slice o t.length c] 26)).alloc (.cells #[.int .i64 m, .slice o1 xs.length c1] 34)).alloc (.cells #[.int .i64 m, .slice o2 ys.length c2] 34)).alloc (.cells #[.int .i64 0, .slice none 0 0] 34))) bZ (nl _); have hu'0 := hu'.below (w' := ((((w.alloc (.cells #[.int .i64 m, .slice o t.length c] 26)).alloc (.cells #[.int .i64 m, .slice o1 xs.length c1] 34)).alloc (.cells #[.int .i64 m, .slice o2 ys.length c2] 34)).alloc (.cells #[.int .i64 0, .slice none 0 0] 34))) bZ (nl _); have HS0 := Lib.hid (show ((((w.alloc (.cells #[.int .i64 m, .slice o t.length c] 26)).alloc (.cells #[.int .i64 m, .slice o1 xs.length c1] 34)).alloc (.cells #[.int .i64 m, .slice o2 ys.length c2] 34)).alloc (.cells #[.int .i64 0, .slice none 0 0] 34)).heap.size = w.heap.size + 1 + 1 + 1 + 1 by simp); generalize (((w.alloc (.cells #[.int .i64 m, .slice o t.length c] 26)).alloc (.cells #[.int .i64 m, .slice o1 xs.length c1] 34)).alloc (.cells #[.int .i64 m, .slice o2 ys.length c2] 34)).alloc (.cells #[.int .i64 0, .slice none 0 0] 34) = w0 at X0 Y0 Z0 R0 B0 hv0 hu0 hu'0 HS0 ⊢)
  obtain ⟨x0, x1⟩ := id X0
  obtain ⟨y0, y1⟩ := id Y0
  obtain ⟨z0, z1⟩ := id Z0
  go_wp2_with fail
  have hzb : Below w0.heap.size w0 (w0.alloc (.cells #[.int .i64 m, .slice o1 xs.length c1, .int .i64 m, .slice o2 ys.length c2] 34)) := bZ
  refine (l04Code_c m _ _ t [(m, xs), (m, ys)] _ (hv0.below hzb (nl _)) (RdM.lit2c w0 HS0.out m m _ _ xs ys hu0 hu'0)).mono ?_
  clear hzb
  rw [HC.out]
  rintro e w1 ⟨rfl, hb⟩
  have hb := (show Below w0.heap.size w0 w1 from (by (repeat (first | exact bR _ _ | (refine bS ?_ _) | (refine bA ?_ _) | (refine bN ?_ _) | (refine bD ?_) | (refine bT ?_ hb)))))
  clear x0 x1 y0 y1 z0 z1 HS0
  (have X1 := X0.below hb (nl _); have Y1 := Y0.below hb (nl _); have Z1 := Z0.below hb (nl _); have R1 := R0.below hb (nl _); have hv1 := hv0.below hb (nl _); have hu1 := hu0.below hb (nl _); have hu'1 := hu'0.below hb (nl _); have B1 := B0.trans (hb.mono B0.size))
  clear hb
  go_wp2_with fail
  have hd0 : Below w1.heap.size w1 w1.drew := (Below.refl _ _).drew
  have hsd0 := hd0.size
  have hrl := R1.1.lt
  have hneR_X1 : w.heap.size + 1 + 1 + 1 ≠ w.heap.size := by omega
  have hneR_Y1 : w.heap.size + 1 + 1 + 1 ≠ w.heap.size + 1 := by omega
  have hneR_Z1 : w.heap.size + 1 + 1 + 1 ≠ w.heap.size + 1 + 1 := by omega
  have hne2 : ¬ (w.heap.size + 1 + 1 = w.heap.size) := by omega
  obtain ⟨⟨q0_R_0, q0_R_1⟩, qf0_R⟩ := R1.below (Below.refl w1.heap.size w1) (nl _)
  obtain ⟨q0_X1_0, q0_X1_1⟩ := X1.below (Below.refl w1.heap.size w1) (nl _)
  obtain ⟨q0_Y1_0, q0_Y1_1⟩ := Y1.below (Below.refl w1.heap.size w1) (nl _)
  obtain ⟨q0_Z1_0, q0_Z1_1⟩ := Z1.below (Below.refl w1.heap.size w1) (nl _)
  go_region_held3 (fun w' => w'.cell? ⟨w.heap.size, 0, none⟩ = some (.int .i64 m) ∧ w'.cell? ⟨w.heap.size, 1, none⟩ = some (.slice o t.length c) ∧ w'.cell? ⟨w.heap.size + 1, 0, none⟩ = some (.int .i64 m) ∧ w'.cell? ⟨w.heap.size + 1, 1, none⟩ = some (.slice o1 xs.length c1) ∧ w'.cell? ⟨w.heap.size + 1 + 1, 0, none⟩ = some (.int .i64 m) ∧ w'.cell? ⟨w.heap.size + 1 + 1, 1, none⟩ = some (.slice o2 ys.length c2)) (go_keep)
   (first
    | (go_at_call 48; refine (l03Put_c m t.length _ _ _ t xs ys _ ((hv1).below bZ (nl _)) ((hu1).below bZ (nl _)) ((hu'1).below bZ (nl _)) HLX.out HLY.out (by omega) (by omega) (by omega) (by omega) HT.out hx hy).mono ?_; rintro e wd1 ⟨va1, rfl, hod1, hbd1⟩; obtain ⟨oa, ca, rfl⟩ := hod1.shapeN (n := t.length) (putTo_len _ _ _ _ _ _ _); have hd1 : Below w1.heap.size w1 wd1 := (by (repeat (first | exact bR _ _ | (refine bS ?_ _) | (refine bA ?_ _) | (refine bN ?_ _) | (refine bD ?_) | (refine bT ?_ hbd1)))); have hsd1 := hd1.size; have hsz1_ := hbd1.size; (try simp at hsz1_); obtain ⟨⟨q1_R_0, q1_R_1⟩, qf1_R⟩ := R1.below hd1 (nl _); obtain ⟨q1_X1_0, q1_X1_1⟩ := X1.below hd1 (nl _); obtain ⟨q1_Y1_0, q1_Y1_1⟩ := Y1.below hd1 (nl _); obtain ⟨q1_Z1_0, q1_Z1_1⟩ := Z1.below hd1 (nl _))
    | (go_at_call 47; refine (l02Make_c m _ _ _ _).mono ?_; rintro e wd2 ⟨rfl, hbd2⟩; have hd2 : Below w1.heap.size w1 wd2 := (by (repeat (first | exact bR _ _ | (refine bS ?_ _) | (refine bA ?_ _) | (refine bN ?_ _) | (refine bD ?_) | (refine bT ?_ hbd1) | (refine bT ?_ hbd2)))); have hsd2 := hd2.size; have hsz2_ := hbd2.size; (try simp at hsz2_); obtain ⟨⟨q2_R_0, q2_R_1⟩, qf2_R⟩ := R1.below hd2 (nl _); obtain ⟨q2_X1_0, q2_X1_1⟩ := X1.below hd2 (nl _); obtain ⟨q2_Y1_0, q2_Y1_1⟩ := Y1.below hd2 (nl _); obtain ⟨q2_Z1_0, q2_Z1_1⟩ := Z1.below hd2 (nl _)))
  go_wp2
  refine bodyPost_ret (v := .tuple #[.agg #[.int .i64 m, .slice oa t.length ca], .int .i64 0]) (by simp [results, Tryz.results14, go_sem, q2_R_0, q2_R_1]) rfl ⟨_, rfl, ?_, ?_, hlen⟩
  ·have hbsz := B1.size
   exact (((hod1.below (by (repeat (first | exact bR _ _ | (refine bS ?_ _) | (refine bA ?_ _) | (refine bN ?_ _) | (refine bD ?_) | (refine bT ?_ hbd2))))).low (by first | (simp; done) | (simp; omega) | omega) _).low (by first | (simp; done) | (simp; omega) | omega) _).mono (by first | (simp; done) | (simp; omega) | omega)
  ·have hbsz := B1.size
   (repeat (first | exact bR _ _ | (refine bS ?_ _) | (refine bA ?_ _) | (refine bN ?_ _) | (refine bD ?_) | (refine bT ?_ hbd1) | (refine bT ?_ hbd2) | (refine bT ?_ B1)))
 ·have hR : sumUR m t m1 xs m2 ys = SR.bad (curC m t [(m1, xs), (m2, ys)]) := by simp [sumUR, hc]
  rw [hR]
  clear hR
  obtain ⟨cc, hcc0⟩ : ∃ cc, curC m t [(m1, xs), (m2, ys)] = cc := ⟨_, rfl⟩
  rw [hcc0] at hc ⊢
  have HC := Lib.hid hcc0
  clear hcc0
  have hcc : (cc != 0) = true := by simpa using hc
  clear hc
  go_enter Tryz.func14, Tryz.ntmps14
  go_wp2_with fail
  (have X0 := ((RB2.mk1 w  (.int .i64 m) (.slice o t.length c) 26).1).below (w' := ((((w.alloc (.cells #[.int .i64 m, .slice o t.length c] 26)).alloc (.cells #[.int .i64 m1, .slice o1 xs.length c1] 34)).alloc (.cells #[.int .i64 m2, .slice o2 ys.length c2] 34)).alloc (.cells #[.int .i64 0, .slice none 0 0] 34))) bZ (nl _); have Y0 := ((RB2.mk2 w (.cells #[.int .i64 m, .slice o t.length c] 26) (.int .i64 m1) (.slice o1 xs.length c1) 34).1).below (w' := ((((w.alloc (.cells #[.int .i64 m, .slice o t.length c] 26)).alloc (.cells #[.int .i64 m1, .slice o1 xs.length c1] 34)).alloc (.cells #[.int .i64 m2, .slice o2 ys.length c2] 34)).alloc (.cells #[.int .i64 0, .slice none 0 0] 34))) bZ (nl _); have Z0 := ((RB2.mk3 w (.cells #[.int .i64 m, .slice o t.length c] 26) (.cells #[.int .i64 m1, .slice o1 xs.length c1] 34) (.int .i64 m2) (.slice o2 ys.length c2) 34).1).below (w' := ((((w.alloc (.cells #[.int .i64 m, .slice o t.length c] 26)).alloc (.cells #[.int .i64 m1, .slice o1 xs.length c1] 34)).alloc (.cells #[.int .i64 m2, .slice o2 ys.length c2] 34)).alloc (.cells #[.int .i64 0, .slice none 0 0] 34))) bZ (nl _); have R0 := ((RB2.mk4 w (.cells #[.int .i64 m, .slice o t.length c] 26) (.cells #[.int .i64 m1, .slice o1 xs.length c1] 34) (.cells #[.int .i64 m2, .slice o2 ys.length c2] 34) (.int .i64 0) (.slice none 0 0) 34)).below (w' := ((((w.alloc (.cells #[.int .i64 m, .slice o t.length c] 26)).alloc (.cells #[.int .i64 m1, .slice o1 xs.length c1] 34)).alloc (.cells #[.int .i64 m2, .slice o2 ys.length c2] 34)).alloc (.cells #[.int .i64 0, .slice none 0 0] 34))) bZ (nl _); have B0 : Below w.heap.size w ((((w.alloc (.cells #[.int .i64 m, .slice o t.length c] 26)).alloc (.cells #[.int .i64 m1, .slice o1 xs.length c1] 34)).alloc (.cells #[.int .i64 m2, .slice o2 ys.length c2] 34)).alloc (.cells #[.int .i64 0, .slice none 0 0] 34)) := bZ; have hv0 := hv.below (w' := ((((w.alloc (.cells #[.int .i64 m, .slice o t.length c] 26)).alloc (.cells #[.int .i64 m1, .slice o1 xs.length c1] 34)).alloc (.cells #[.int .i64 m2, .slice o2 ys.length c2] 34)).alloc (.cells #[.int .i64 0, .slice none 0 0] 34))) bZ (nl _); have hu0 := hu.below (w' := ((((w.alloc (.cells #[.int .i64 m, .slice o t.length c] 26)).alloc (.cells #[.int .i64 m1, .slice o1 xs.length c1] 34)).alloc (.cells #[.int .i64 m2, .slice o2 ys.length c2] 34)).alloc (.cells #[.int .i64 0, .slice none 0 0] 34))) bZ (nl _); have hu'0 := hu'.below (w' := ((((w.alloc (.cells #[.int .i64 m, .slice o t.length c] 26)).alloc (.cells #[.int .i64 m1, .slice o1 xs.length c1] 34)).alloc (.cells #[.int .i64 m2, .slice o2 ys.length c2] 34)).alloc (.cells #[.int .i64 0, .slice none 0 0] 34))) bZ (nl _); have HS0 := Lib.hid (show ((((w.alloc (.cells #[.int .i64 m, .slice o t.length c] 26)).alloc (.cells #[.int .i64 m1, .slice o1 xs.length c1] 34)).alloc (.cells #[.int .i64 m2, .slice o2 ys.length c2] 34)).alloc (.cells #[.int .i64 0, .slice none 0 0] 34)).heap.size = w.heap.size + 1 + 1 + 1 + 1 by simp); generalize (((w.alloc (.cells #[.int .i64 m, .slice o t.length c] 26)).alloc (.cells #[.int .i64 m1, .slice o1 xs.length c1] 34)).alloc (.cells #[.int .i64 m2, .slice o2 ys.length c2] 34)).alloc (.cells #[.int .i64 0, .slice none 0 0] 34) = w0 at X0 Y0 Z0 R0 B0 hv0 hu0 hu'0 HS0 ⊢)
  obtain ⟨x0, x1⟩ := id X0
  obtain ⟨y0, y1⟩ := id Y0
  obtain ⟨z0, z1⟩ := id Z0
  go_wp2_with fail
  have hzb : Below w0.heap.size w0 (w0.alloc (.cells #[.int .i64 m1, .slice o1 xs.length c1, .int .i64 m2, .slice o2 ys.length c2] 34)) := bZ
  refine (l04Code_c m _ _ t [(m1, xs), (m2, ys)] _ (hv0.below hzb (nl _)) (RdM.lit2c w0 HS0.out m1 m2 _ _ xs ys hu0 hu'0)).mono ?_
  clear hzb
  rw [HC.out]
  rintro e w1 ⟨rfl, hb⟩
  have hb := (show Below w0.heap.size w0 w1 from (by (repeat (first | exact bR _ _ | (refine bS ?_ _) | (refine bA ?_ _) | (refine bN ?_ _) | (refine bD ?_) | (refine bT ?_ hb)))))
  clear x0 x1 y0 y1 z0 z1 HS0
  (have R1 := R0.below hb (nl _); have B1 := B0.trans (hb.mono B0.size))
  clear hb
  (obtain ⟨⟨r0, r1⟩, rf⟩ := id R1; go_wp2; exact bodyPost_ret (v := .tuple #[.agg #[.int .i64 0, .slice none 0 0], .int .i64 cc]) (by simp [results, Tryz.results14, go_sem, r0, r1]) rfl ⟨_, rfl, OwI.nil _ _, (by (repeat (first | exact bR _ _ | (refine bS ?_ _) | (refine bA ?_ _) | (refine bN ?_ _) | (refine bD ?_) | (refine bT ?_ B1)))), by simp [SR.bad]⟩)
theorem DifferenceUnder_c (m : Int) (v : Value) (t : List (List Int)) (m1 : Int) (u : Value) (xs : List Int) (m2 : Int) (u' : Value) (ys : List Int) (w : World) (hv : RdT w v t) (hu : RdI w u xs) (hu' : RdI w u' ys) :
  Calls Tryz.prog 16 #[.agg #[.int .i64 m, v], .agg #[.int .i64 m1, u], .agg #[.int .i64 m2, u']] w fun e w' => SEnd w w' (diffUR m t m1 xs m2 ys) e := by
 obtain ⟨o, c, rfl, -, -⟩ := id hv
 obtain ⟨o1, c1, rfl, -, -⟩ := id hu
 obtain ⟨o2, c2, rfl, -, -⟩ := id hu'
 by_cases hc : curC m t [(m1, xs), (m2, ys)] = 0
 ·obtain ⟨a1, a2⟩ := curC_0 hc
  obtain ⟨s1, e1, l1, -⟩ := a2 (m1, xs) (by simp)
  obtain ⟨s2, e2, l2, -⟩ := a2 (m2, ys) (by simp)
  replace s1 : serB m1 xs = true := s1
  replace l1 : xs.length = t.length := l1
  replace e1 : m = m1 := e1.symm
  replace s2 : serB m2 ys = true := s2
  replace l2 : ys.length = t.length := l2
  replace e2 : m = m2 := e2.symm
  subst e1 e2
  have hR : diffUR m t m xs m ys = ⟨m, putL m t.length t xs (horn m t.length ys (invL m t.length t)), 0⟩ := by simp [diffUR, hc]
  rw [hR]
  clear hR a2
  have hp := (lawB_t a1).1
  have hn := pla_n hp
  have hm := pla_m hp
  have hx := ser_x s1
  have hy := ser_x s2
  have HC := Lib.hid hc
  have HT := Lib.hid (show PlaT m t.length t from ⟨rfl, pla_row hp⟩)
  have HLX := Lib.hid l1
  have HLY := Lib.hid l2
  have hlen : (putL m t.length t xs (horn m t.length ys (invL m t.length t))).length ≤ 1048576 := by rw [show (putL m t.length t xs (horn m t.length ys (invL m t.length t))).length = t.length from putTo_len _ _ _ _ _ _ _]; omega
  have hcc : ((0 : Int) != 0) = false := by simp
  clear hc a1 hp s1 l1 s2 l2
  go_enter Tryz.func16, Tryz.ntmps16
  go_wp2_with fail
  (have X0 := ((RB2.mk1 w  (.int .i64 m) (.slice o t.length c) 26).1).below (w' := ((((w.alloc (.cells #[.int .i64 m, .slice o t.length c] 26)).alloc (.cells #[.int .i64 m, .slice o1 xs.length c1] 34)).alloc (.cells #[.int .i64 m, .slice o2 ys.length c2] 34)).alloc (.cells #[.int .i64 0, .slice none 0 0] 34))) bZ (nl _); have Y0 := ((RB2.mk2 w (.cells #[.int .i64 m, .slice o t.length c] 26) (.int .i64 m) (.slice o1 xs.length c1) 34).1).below (w' := ((((w.alloc (.cells #[.int .i64 m, .slice o t.length c] 26)).alloc (.cells #[.int .i64 m, .slice o1 xs.length c1] 34)).alloc (.cells #[.int .i64 m, .slice o2 ys.length c2] 34)).alloc (.cells #[.int .i64 0, .slice none 0 0] 34))) bZ (nl _); have Z0 := ((RB2.mk3 w (.cells #[.int .i64 m, .slice o t.length c] 26) (.cells #[.int .i64 m, .slice o1 xs.length c1] 34) (.int .i64 m) (.slice o2 ys.length c2) 34).1).below (w' := ((((w.alloc (.cells #[.int .i64 m, .slice o t.length c] 26)).alloc (.cells #[.int .i64 m, .slice o1 xs.length c1] 34)).alloc (.cells #[.int .i64 m, .slice o2 ys.length c2] 34)).alloc (.cells #[.int .i64 0, .slice none 0 0] 34))) bZ (nl _); have R0 := ((RB2.mk4 w (.cells #[.int .i64 m, .slice o t.length c] 26) (.cells #[.int .i64 m, .slice o1 xs.length c1] 34) (.cells #[.int .i64 m, .slice o2 ys.length c2] 34) (.int .i64 0) (.slice none 0 0) 34)).below (w' := ((((w.alloc (.cells #[.int .i64 m, .slice o t.length c] 26)).alloc (.cells #[.int .i64 m, .slice o1 xs.length c1] 34)).alloc (.cells #[.int .i64 m, .slice o2 ys.length c2] 34)).alloc (.cells #[.int .i64 0, .slice none 0 0] 34))) bZ (nl _); have B0 : Below w.heap.size w ((((w.alloc (.cells #[.int .i64 m, .slice o t.length c] 26)).alloc (.cells #[.int .i64 m, .slice o1 xs.length c1] 34)).alloc (.cells #[.int .i64 m, .slice o2 ys.length c2] 34)).alloc (.cells #[.int .i64 0, .slice none 0 0] 34)) := bZ; have hv0 := hv.below (w' := ((((w.alloc (.cells #[.int .i64 m, .slice o t.length c] 26)).alloc (.cells #[.int .i64 m, .slice o1 xs.length c1] 34)).alloc (.cells #[.int .i64 m, .slice o2 ys.length c2] 34)).alloc (.cells #[.int .i64 0, .slice none 0 0] 34))) bZ (nl _); have hu0 := hu.below (w' := ((((w.alloc (.cells #[.int .i64 m, .slice o t.length c] 26)).alloc (.cells #[.int .i64 m, .slice o1 xs.length c1] 34)).alloc (.cells #[.int .i64 m, .slice o2 ys.length c2] 34)).alloc (.cells #[.int .i64 0, .slice none 0 0] 34))) bZ (nl _); have hu'0 := hu'.below (w' := ((((w.alloc (.cells #[.int .i64 m, .slice o t.length c] 26)).alloc (.cells #[.int .i64 m, .slice o1 xs.length c1] 34)).alloc (.cells #[.int .i64 m, .slice o2 ys.length c2] 34)).alloc (.cells #[.int .i64 0, .slice none 0 0] 34))) bZ (nl _); have HS0 := Lib.hid (show ((((w.alloc (.cells #[.int .i64 m, .slice o t.length c] 26)).alloc (.cells #[.int .i64 m, .slice o1 xs.length c1] 34)).alloc (.cells #[.int .i64 m, .slice o2 ys.length c2] 34)).alloc (.cells #[.int .i64 0, .slice none 0 0] 34)).heap.size = w.heap.size + 1 + 1 + 1 + 1 by simp); generalize (((w.alloc (.cells #[.int .i64 m, .slice o t.length c] 26)).alloc (.cells #[.int .i64 m, .slice o1 xs.length c1] 34)).alloc (.cells #[.int .i64 m, .slice o2 ys.length c2] 34)).alloc (.cells #[.int .i64 0, .slice none 0 0] 34) = w0 at X0 Y0 Z0 R0 B0 hv0 hu0 hu'0 HS0 ⊢)
  obtain ⟨x0, x1⟩ := id X0
  obtain ⟨y0, y1⟩ := id Y0
  obtain ⟨z0, z1⟩ := id Z0
  go_wp2_with fail
  have hzb : Below w0.heap.size w0 (w0.alloc (.cells #[.int .i64 m, .slice o1 xs.length c1, .int .i64 m, .slice o2 ys.length c2] 34)) := bZ
  refine (curved_c m _ _ t [(m, xs), (m, ys)] _ (hv0.below hzb (nl _)) (RdM.lit2c w0 HS0.out m m _ _ xs ys hu0 hu'0)).mono ?_
  clear hzb
  rw [HC.out]
  rintro e w1 ⟨rfl, hb⟩
  have hb := (show Below w0.heap.size w0 w1 from (by (repeat (first | exact bR _ _ | (refine bS ?_ _) | (refine bA ?_ _) | (refine bN ?_ _) | (refine bD ?_) | (refine bT ?_ hb)))))
  clear x0 x1 y0 y1 z0 z1 HS0
  (have X1 := X0.below hb (nl _); have Y1 := Y0.below hb (nl _); have Z1 := Z0.below hb (nl _); have R1 := R0.below hb (nl _); have hv1 := hv0.below hb (nl _); have hu1 := hu0.below hb (nl _); have hu'1 := hu'0.below hb (nl _); have B1 := B0.trans (hb.mono B0.size))
  clear hb
  go_wp2_with fail
  have hd0 : Below w1.heap.size w1 w1.drew := (Below.refl _ _).drew
  have hsd0 := hd0.size
  have hrl := R1.1.lt
  have hneR_X1 : w.heap.size + 1 + 1 + 1 ≠ w.heap.size := by omega
  have hneR_Y1 : w.heap.size + 1 + 1 + 1 ≠ w.heap.size + 1 := by omega
  have hneR_Z1 : w.heap.size + 1 + 1 + 1 ≠ w.heap.size + 1 + 1 := by omega
  have hne2 : ¬ (w.heap.size + 1 + 1 = w.heap.size) := by omega
  obtain ⟨⟨q0_R_0, q0_R_1⟩, qf0_R⟩ := R1.below (Below.refl w1.heap.size w1) (nl _)
  obtain ⟨q0_X1_0, q0_X1_1⟩ := X1.below (Below.refl w1.heap.size w1) (nl _)
  obtain ⟨q0_Y1_0, q0_Y1_1⟩ := Y1.below (Below.refl w1.heap.size w1) (nl _)
  obtain ⟨q0_Z1_0, q0_Z1_1⟩ := Z1.below (Below.refl w1.heap.size w1) (nl _)
  go_region_held3 (fun w' => w'.cell? ⟨w.heap.size, 0, none⟩ = some (.int .i64 m) ∧ w'.cell? ⟨w.heap.size, 1, none⟩ = some (.slice o t.length c) ∧ w'.cell? ⟨w.heap.size + 1, 0, none⟩ = some (.int .i64 m) ∧ w'.cell? ⟨w.heap.size + 1, 1, none⟩ = some (.slice o1 xs.length c1) ∧ w'.cell? ⟨w.heap.size + 1 + 1, 0, none⟩ = some (.int .i64 m) ∧ w'.cell? ⟨w.heap.size + 1 + 1, 1, none⟩ = some (.slice o2 ys.length c2)) (go_keep)
   (first
    | (go_at_call 49; refine (opposite_c m m t.length _ _ t ys _ ((hv1).below bZ (nl _)) ((hu'1).below bZ (nl _)) HLY.out (by omega) (by omega) (by omega) (by omega) HT.out hy).mono ?_; rintro e wd1 ⟨vo1, rfl, hod1, hbd1⟩; obtain ⟨oo, co, rfl⟩ := hod1.shapeN (n := t.length) (horn_len _ _ _ _); have hd1 : Below w1.heap.size w1 wd1 := (by (repeat (first | exact bR _ _ | (refine bS ?_ _) | (refine bA ?_ _) | (refine bN ?_ _) | (refine bD ?_) | (refine bT ?_ hbd1)))); have hsd1 := hd1.size; have hsz1_ := hbd1.size; (try simp at hsz1_); obtain ⟨⟨q1_R_0, q1_R_1⟩, qf1_R⟩ := R1.below hd1 (nl _); obtain ⟨q1_X1_0, q1_X1_1⟩ := X1.below hd1 (nl _); obtain ⟨q1_Y1_0, q1_Y1_1⟩ := Y1.below hd1 (nl _); obtain ⟨q1_Z1_0, q1_Z1_1⟩ := Z1.below hd1 (nl _))
    | (go_at_call 45; refine (curvesP_c m m t.length _ _ _ t xs (horn m t.length ys (invL m t.length t)) _ ((hv1).below (by (repeat (first | exact bR _ _ | (refine bS ?_ _) | (refine bA ?_ _) | (refine bN ?_ _) | (refine bD ?_) | (refine bT ?_ hbd1)))) (nl _)) ((hu1).below (by (repeat (first | exact bR _ _ | (refine bS ?_ _) | (refine bA ?_ _) | (refine bN ?_ _) | (refine bD ?_) | (refine bT ?_ hbd1)))) (nl _)) (((hod1.below bZ)).rd) HLX.out (horn_len _ _ _ _) (by omega) (by omega) (by omega) (by omega) HT.out hx (horn_range (by omega))).mono ?_; rintro e wd2 ⟨va2, rfl, hod2, hbd2⟩; obtain ⟨oa, ca, rfl⟩ := hod2.shapeN (n := t.length) (putTo_len _ _ _ _ _ _ _); have hd2 : Below w1.heap.size w1 wd2 := (by (repeat (first | exact bR _ _ | (refine bS ?_ _) | (refine bA ?_ _) | (refine bN ?_ _) | (refine bD ?_) | (refine bT ?_ hbd1) | (refine bT ?_ hbd2)))); have hsd2 := hd2.size; have hsz2_ := hbd2.size; (try simp at hsz2_); obtain ⟨⟨q2_R_0, q2_R_1⟩, qf2_R⟩ := R1.below hd2 (nl _); obtain ⟨q2_X1_0, q2_X1_1⟩ := X1.below hd2 (nl _); obtain ⟨q2_Y1_0, q2_Y1_1⟩ := Y1.below hd2 (nl _); obtain ⟨q2_Z1_0, q2_Z1_1⟩ := Z1.below hd2 (nl _)))
  go_wp2
  refine bodyPost_ret (v := .tuple #[.agg #[.int .i64 m, .slice oa t.length ca], .int .i64 0]) (by simp [results, Tryz.results16, go_sem, q2_R_0, q2_R_1]) rfl ⟨_, rfl, ?_, ?_, hlen⟩
  ·have hbsz := B1.size
   exact ((hod2.low (by first | (simp; done) | (simp; omega) | omega) _).low (by first | (simp; done) | (simp; omega) | omega) _).mono (by first | (simp; done) | (simp; omega) | omega)
  ·have hbsz := B1.size
   (repeat (first | exact bR _ _ | (refine bS ?_ _) | (refine bA ?_ _) | (refine bN ?_ _) | (refine bD ?_) | (refine bT ?_ hbd1) | (refine bT ?_ hbd2) | (refine bT ?_ B1)))
 ·have hR : diffUR m t m1 xs m2 ys = SR.bad (curC m t [(m1, xs), (m2, ys)]) := by simp [diffUR, hc]
  rw [hR]
  clear hR
  obtain ⟨cc, hcc0⟩ : ∃ cc, curC m t [(m1, xs), (m2, ys)] = cc := ⟨_, rfl⟩
  rw [hcc0] at hc ⊢
  have HC := Lib.hid hcc0
  clear hcc0
  have hcc : (cc != 0) = true := by simpa using hc
  clear hc
  go_enter Tryz.func16, Tryz.ntmps16
  go_wp2_with fail
  (have X0 := ((RB2.mk1 w  (.int .i64 m) (.slice o t.length c) 26).1).below (w' := ((((w.alloc (.cells #[.int .i64 m, .slice o t.length c] 26)).alloc (.cells #[.int .i64 m1, .slice o1 xs.length c1] 34)).alloc (.cells #[.int .i64 m2, .slice o2 ys.length c2] 34)).alloc (.cells #[.int .i64 0, .slice none 0 0] 34))) bZ (nl _); have Y0 := ((RB2.mk2 w (.cells #[.int .i64 m, .slice o t.length c] 26) (.int .i64 m1) (.slice o1 xs.length c1) 34).1).below (w' := ((((w.alloc (.cells #[.int .i64 m, .slice o t.length c] 26)).alloc (.cells #[.int .i64 m1, .slice o1 xs.length c1] 34)).alloc (.cells #[.int .i64 m2, .slice o2 ys.length c2] 34)).alloc (.cells #[.int .i64 0, .slice none 0 0] 34))) bZ (nl _); have Z0 := ((RB2.mk3 w (.cells #[.int .i64 m, .slice o t.length c] 26) (.cells #[.int .i64 m1, .slice o1 xs.length c1] 34) (.int .i64 m2) (.slice o2 ys.length c2) 34).1).below (w' := ((((w.alloc (.cells #[.int .i64 m, .slice o t.length c] 26)).alloc (.cells #[.int .i64 m1, .slice o1 xs.length c1] 34)).alloc (.cells #[.int .i64 m2, .slice o2 ys.length c2] 34)).alloc (.cells #[.int .i64 0, .slice none 0 0] 34))) bZ (nl _); have R0 := ((RB2.mk4 w (.cells #[.int .i64 m, .slice o t.length c] 26) (.cells #[.int .i64 m1, .slice o1 xs.length c1] 34) (.cells #[.int .i64 m2, .slice o2 ys.length c2] 34) (.int .i64 0) (.slice none 0 0) 34)).below (w' := ((((w.alloc (.cells #[.int .i64 m, .slice o t.length c] 26)).alloc (.cells #[.int .i64 m1, .slice o1 xs.length c1] 34)).alloc (.cells #[.int .i64 m2, .slice o2 ys.length c2] 34)).alloc (.cells #[.int .i64 0, .slice none 0 0] 34))) bZ (nl _); have B0 : Below w.heap.size w ((((w.alloc (.cells #[.int .i64 m, .slice o t.length c] 26)).alloc (.cells #[.int .i64 m1, .slice o1 xs.length c1] 34)).alloc (.cells #[.int .i64 m2, .slice o2 ys.length c2] 34)).alloc (.cells #[.int .i64 0, .slice none 0 0] 34)) := bZ; have hv0 := hv.below (w' := ((((w.alloc (.cells #[.int .i64 m, .slice o t.length c] 26)).alloc (.cells #[.int .i64 m1, .slice o1 xs.length c1] 34)).alloc (.cells #[.int .i64 m2, .slice o2 ys.length c2] 34)).alloc (.cells #[.int .i64 0, .slice none 0 0] 34))) bZ (nl _); have hu0 := hu.below (w' := ((((w.alloc (.cells #[.int .i64 m, .slice o t.length c] 26)).alloc (.cells #[.int .i64 m1, .slice o1 xs.length c1] 34)).alloc (.cells #[.int .i64 m2, .slice o2 ys.length c2] 34)).alloc (.cells #[.int .i64 0, .slice none 0 0] 34))) bZ (nl _); have hu'0 := hu'.below (w' := ((((w.alloc (.cells #[.int .i64 m, .slice o t.length c] 26)).alloc (.cells #[.int .i64 m1, .slice o1 xs.length c1] 34)).alloc (.cells #[.int .i64 m2, .slice o2 ys.length c2] 34)).alloc (.cells #[.int .i64 0, .slice none 0 0] 34))) bZ (nl _); have HS0 := Lib.hid (show ((((w.alloc (.cells #[.int .i64 m, .slice o t.length c] 26)).alloc (.cells #[.int .i64 m1, .slice o1 xs.length c1] 34)).alloc (.cells #[.int .i64 m2, .slice o2 ys.length c2] 34)).alloc (.cells #[.int .i64 0, .slice none 0 0] 34)).heap.size = w.heap.size + 1 + 1 + 1 + 1 by simp); generalize (((w.alloc (.cells #[.int .i64 m, .slice o t.length c] 26)).alloc (.cells #[.int .i64 m1, .slice o1 xs.length c1] 34)).alloc (.cells #[.int .i64 m2, .slice o2 ys.length c2] 34)).alloc (.cells #[.int .i64 0, .slice none 0 0] 34) = w0 at X0 Y0 Z0 R0 B0 hv0 hu0 hu'0 HS0 ⊢)
  obtain ⟨x0, x1⟩ := id X0
  obtain ⟨y0, y1⟩ := id Y0
  obtain ⟨z0, z1⟩ := id Z0
  go_wp2_with fail
  have hzb : Below w0.heap.size w0 (w0.alloc (.cells #[.int .i64 m1, .slice o1 xs.length c1, .int .i64 m2, .slice o2 ys.length c2] 34)) := bZ
  refine (curved_c m _ _ t [(m1, xs), (m2, ys)] _ (hv0.below hzb (nl _)) (RdM.lit2c w0 HS0.out m1 m2 _ _ xs ys hu0 hu'0)).mono ?_
  clear hzb
  rw [HC.out]
  rintro e w1 ⟨rfl, hb⟩
  have hb := (show Below w0.heap.size w0 w1 from (by (repeat (first | exact bR _ _ | (refine bS ?_ _) | (refine bA ?_ _) | (refine bN ?_ _) | (refine bD ?_) | (refine bT ?_ hb)))))
  clear x0 x1 y0 y1 z0 z1 HS0
  (have R1 := R0.below hb (nl _); have B1 := B0.trans (hb.mono B0.size))
  clear hb
  (obtain ⟨⟨r0, r1⟩, rf⟩ := id R1; go_wp2; exact bodyPost_ret (v := .tuple #[.agg #[.int .i64 0, .slice none 0 0], .int .i64 cc]) (by simp [results, Tryz.results16, go_sem, r0, r1]) rfl ⟨_, rfl, OwI.nil _ _, (by (repeat (first | exact bR _ _ | (refine bS ?_ _) | (refine bA ?_ _) | (refine bN ?_ _) | (refine bD ?_) | (refine bT ?_ B1)))), by simp [SR.bad]⟩)
theorem sDifferenceUnder_c (m : Int) (v : Value) (t : List (List Int)) (m1 : Int) (u : Value) (xs : List Int) (m2 : Int) (u' : Value) (ys : List Int) (w : World) (hv : RdT w v t) (hu : RdI w u xs) (hu' : RdI w u' ys) :
  Calls Tryz.prog 17 #[.agg #[.int .i64 m, v], .agg #[.int .i64 m1, u], .agg #[.int .i64 m2, u']] w fun e w' => SEnd w w' (diffUR m t m1 xs m2 ys) e := by
 obtain ⟨o, c, rfl, -, -⟩ := id hv
 obtain ⟨o1, c1, rfl, -, -⟩ := id hu
 obtain ⟨o2, c2, rfl, -, -⟩ := id hu'
 by_cases hc : curC m t [(m1, xs), (m2, ys)] = 0
 ·obtain ⟨a1, a2⟩ := curC_0 hc
  obtain ⟨s1, e1, l1, -⟩ := a2 (m1, xs) (by simp)
  obtain ⟨s2, e2, l2, -⟩ := a2 (m2, ys) (by simp)
  replace s1 : serB m1 xs = true := s1
  replace l1 : xs.length = t.length := l1
  replace e1 : m = m1 := e1.symm
  replace s2 : serB m2 ys = true := s2
  replace l2 : ys.length = t.length := l2
  replace e2 : m = m2 := e2.symm
  subst e1 e2
  have hR : diffUR m t m xs m ys = ⟨m, putL m t.length t xs (horn m t.length ys (invL m t.length t)), 0⟩ := by simp [diffUR, hc]
  rw [hR]
  clear hR a2
  have hp := (lawB_t a1).1
  have hn := pla_n hp
  have hm := pla_m hp
  have hx := ser_x s1
  have hy := ser_x s2
  have HC := Lib.hid hc
  have HT := Lib.hid (show PlaT m t.length t from ⟨rfl, pla_row hp⟩)
  have HLX := Lib.hid l1
  have HLY := Lib.hid l2
  have hlen : (putL m t.length t xs (horn m t.length ys (invL m t.length t))).length ≤ 1048576 := by rw [show (putL m t.length t xs (horn m t.length ys (invL m t.length t))).length = t.length from putTo_len _ _ _ _ _ _ _]; omega
  have hcc : ((0 : Int) != 0) = false := by simp
  clear hc a1 hp s1 l1 s2 l2
  go_enter Tryz.func17, Tryz.ntmps17
  go_wp2_with fail
  (have X0 := ((RB2.mk1 w  (.int .i64 m) (.slice o t.length c) 26).1).below (w' := ((((w.alloc (.cells #[.int .i64 m, .slice o t.length c] 26)).alloc (.cells #[.int .i64 m, .slice o1 xs.length c1] 34)).alloc (.cells #[.int .i64 m, .slice o2 ys.length c2] 34)).alloc (.cells #[.int .i64 0, .slice none 0 0] 34))) bZ (nl _); have Y0 := ((RB2.mk2 w (.cells #[.int .i64 m, .slice o t.length c] 26) (.int .i64 m) (.slice o1 xs.length c1) 34).1).below (w' := ((((w.alloc (.cells #[.int .i64 m, .slice o t.length c] 26)).alloc (.cells #[.int .i64 m, .slice o1 xs.length c1] 34)).alloc (.cells #[.int .i64 m, .slice o2 ys.length c2] 34)).alloc (.cells #[.int .i64 0, .slice none 0 0] 34))) bZ (nl _); have Z0 := ((RB2.mk3 w (.cells #[.int .i64 m, .slice o t.length c] 26) (.cells #[.int .i64 m, .slice o1 xs.length c1] 34) (.int .i64 m) (.slice o2 ys.length c2) 34).1).below (w' := ((((w.alloc (.cells #[.int .i64 m, .slice o t.length c] 26)).alloc (.cells #[.int .i64 m, .slice o1 xs.length c1] 34)).alloc (.cells #[.int .i64 m, .slice o2 ys.length c2] 34)).alloc (.cells #[.int .i64 0, .slice none 0 0] 34))) bZ (nl _); have R0 := ((RB2.mk4 w (.cells #[.int .i64 m, .slice o t.length c] 26) (.cells #[.int .i64 m, .slice o1 xs.length c1] 34) (.cells #[.int .i64 m, .slice o2 ys.length c2] 34) (.int .i64 0) (.slice none 0 0) 34)).below (w' := ((((w.alloc (.cells #[.int .i64 m, .slice o t.length c] 26)).alloc (.cells #[.int .i64 m, .slice o1 xs.length c1] 34)).alloc (.cells #[.int .i64 m, .slice o2 ys.length c2] 34)).alloc (.cells #[.int .i64 0, .slice none 0 0] 34))) bZ (nl _); have B0 : Below w.heap.size w ((((w.alloc (.cells #[.int .i64 m, .slice o t.length c] 26)).alloc (.cells #[.int .i64 m, .slice o1 xs.length c1] 34)).alloc (.cells #[.int .i64 m, .slice o2 ys.length c2] 34)).alloc (.cells #[.int .i64 0, .slice none 0 0] 34)) := bZ; have hv0 := hv.below (w' := ((((w.alloc (.cells #[.int .i64 m, .slice o t.length c] 26)).alloc (.cells #[.int .i64 m, .slice o1 xs.length c1] 34)).alloc (.cells #[.int .i64 m, .slice o2 ys.length c2] 34)).alloc (.cells #[.int .i64 0, .slice none 0 0] 34))) bZ (nl _); have hu0 := hu.below (w' := ((((w.alloc (.cells #[.int .i64 m, .slice o t.length c] 26)).alloc (.cells #[.int .i64 m, .slice o1 xs.length c1] 34)).alloc (.cells #[.int .i64 m, .slice o2 ys.length c2] 34)).alloc (.cells #[.int .i64 0, .slice none 0 0] 34))) bZ (nl _); have hu'0 := hu'.below (w' := ((((w.alloc (.cells #[.int .i64 m, .slice o t.length c] 26)).alloc (.cells #[.int .i64 m, .slice o1 xs.length c1] 34)).alloc (.cells #[.int .i64 m, .slice o2 ys.length c2] 34)).alloc (.cells #[.int .i64 0, .slice none 0 0] 34))) bZ (nl _); have HS0 := Lib.hid (show ((((w.alloc (.cells #[.int .i64 m, .slice o t.length c] 26)).alloc (.cells #[.int .i64 m, .slice o1 xs.length c1] 34)).alloc (.cells #[.int .i64 m, .slice o2 ys.length c2] 34)).alloc (.cells #[.int .i64 0, .slice none 0 0] 34)).heap.size = w.heap.size + 1 + 1 + 1 + 1 by simp); generalize (((w.alloc (.cells #[.int .i64 m, .slice o t.length c] 26)).alloc (.cells #[.int .i64 m, .slice o1 xs.length c1] 34)).alloc (.cells #[.int .i64 m, .slice o2 ys.length c2] 34)).alloc (.cells #[.int .i64 0, .slice none 0 0] 34) = w0 at X0 Y0 Z0 R0 B0 hv0 hu0 hu'0 HS0 ⊢)
  obtain ⟨x0, x1⟩ := id X0
  obtain ⟨y0, y1⟩ := id Y0
  obtain ⟨z0, z1⟩ := id Z0
  go_wp2_with fail
  have hzb : Below w0.heap.size w0 (w0.alloc (.cells #[.int .i64 m, .slice o1 xs.length c1, .int .i64 m, .slice o2 ys.length c2] 34)) := bZ
  refine (l04Code_c m _ _ t [(m, xs), (m, ys)] _ (hv0.below hzb (nl _)) (RdM.lit2c w0 HS0.out m m _ _ xs ys hu0 hu'0)).mono ?_
  clear hzb
  rw [HC.out]
  rintro e w1 ⟨rfl, hb⟩
  have hb := (show Below w0.heap.size w0 w1 from (by (repeat (first | exact bR _ _ | (refine bS ?_ _) | (refine bA ?_ _) | (refine bN ?_ _) | (refine bD ?_) | (refine bT ?_ hb)))))
  clear x0 x1 y0 y1 z0 z1 HS0
  (have X1 := X0.below hb (nl _); have Y1 := Y0.below hb (nl _); have Z1 := Z0.below hb (nl _); have R1 := R0.below hb (nl _); have hv1 := hv0.below hb (nl _); have hu1 := hu0.below hb (nl _); have hu'1 := hu'0.below hb (nl _); have B1 := B0.trans (hb.mono B0.size))
  clear hb
  go_wp2_with fail
  have hd0 : Below w1.heap.size w1 w1.drew := (Below.refl _ _).drew
  have hsd0 := hd0.size
  have hrl := R1.1.lt
  have hneR_X1 : w.heap.size + 1 + 1 + 1 ≠ w.heap.size := by omega
  have hneR_Y1 : w.heap.size + 1 + 1 + 1 ≠ w.heap.size + 1 := by omega
  have hneR_Z1 : w.heap.size + 1 + 1 + 1 ≠ w.heap.size + 1 + 1 := by omega
  have hne2 : ¬ (w.heap.size + 1 + 1 = w.heap.size) := by omega
  obtain ⟨⟨q0_R_0, q0_R_1⟩, qf0_R⟩ := R1.below (Below.refl w1.heap.size w1) (nl _)
  obtain ⟨q0_X1_0, q0_X1_1⟩ := X1.below (Below.refl w1.heap.size w1) (nl _)
  obtain ⟨q0_Y1_0, q0_Y1_1⟩ := Y1.below (Below.refl w1.heap.size w1) (nl _)
  obtain ⟨q0_Z1_0, q0_Z1_1⟩ := Z1.below (Below.refl w1.heap.size w1) (nl _)
  go_region_held3 (fun w' => w'.cell? ⟨w.heap.size, 0, none⟩ = some (.int .i64 m) ∧ w'.cell? ⟨w.heap.size, 1, none⟩ = some (.slice o t.length c) ∧ w'.cell? ⟨w.heap.size + 1, 0, none⟩ = some (.int .i64 m) ∧ w'.cell? ⟨w.heap.size + 1, 1, none⟩ = some (.slice o1 xs.length c1) ∧ w'.cell? ⟨w.heap.size + 1 + 1, 0, none⟩ = some (.int .i64 m) ∧ w'.cell? ⟨w.heap.size + 1 + 1, 1, none⟩ = some (.slice o2 ys.length c2)) (go_keep)
   (first
    | (go_at_call 50; refine (l04Opposite_c m t.length _ _ t ys _ ((hv1).below bZ (nl _)) ((hu'1).below bZ (nl _)) HLY.out (by omega) (by omega) (by omega) (by omega) HT.out hy).mono ?_; rintro e wd1 ⟨vo1, rfl, hod1, hbd1⟩; obtain ⟨oo, co, rfl⟩ := hod1.shapeN (n := t.length) (horn_len _ _ _ _); have hd1 : Below w1.heap.size w1 wd1 := (by (repeat (first | exact bR _ _ | (refine bS ?_ _) | (refine bA ?_ _) | (refine bN ?_ _) | (refine bD ?_) | (refine bT ?_ hbd1)))); have hsd1 := hd1.size; have hsz1_ := hbd1.size; (try simp at hsz1_); obtain ⟨⟨q1_R_0, q1_R_1⟩, qf1_R⟩ := R1.below hd1 (nl _); obtain ⟨q1_X1_0, q1_X1_1⟩ := X1.below hd1 (nl _); obtain ⟨q1_Y1_0, q1_Y1_1⟩ := Y1.below hd1 (nl _); obtain ⟨q1_Z1_0, q1_Z1_1⟩ := Z1.below hd1 (nl _))
    | (go_at_call 48; refine (l03Put_c m t.length _ _ _ t xs (horn m t.length ys (invL m t.length t)) _ ((hv1).below (by (repeat (first | exact bR _ _ | (refine bS ?_ _) | (refine bA ?_ _) | (refine bN ?_ _) | (refine bD ?_) | (refine bT ?_ hbd1)))) (nl _)) ((hu1).below (by (repeat (first | exact bR _ _ | (refine bS ?_ _) | (refine bA ?_ _) | (refine bN ?_ _) | (refine bD ?_) | (refine bT ?_ hbd1)))) (nl _)) (((hod1.below bZ)).rd) HLX.out (horn_len _ _ _ _) (by omega) (by omega) (by omega) (by omega) HT.out hx (horn_range (by omega))).mono ?_; rintro e wd2 ⟨va2, rfl, hod2, hbd2⟩; obtain ⟨oa, ca, rfl⟩ := hod2.shapeN (n := t.length) (putTo_len _ _ _ _ _ _ _); have hd2 : Below w1.heap.size w1 wd2 := (by (repeat (first | exact bR _ _ | (refine bS ?_ _) | (refine bA ?_ _) | (refine bN ?_ _) | (refine bD ?_) | (refine bT ?_ hbd1) | (refine bT ?_ hbd2)))); have hsd2 := hd2.size; have hsz2_ := hbd2.size; (try simp at hsz2_); obtain ⟨⟨q2_R_0, q2_R_1⟩, qf2_R⟩ := R1.below hd2 (nl _); obtain ⟨q2_X1_0, q2_X1_1⟩ := X1.below hd2 (nl _); obtain ⟨q2_Y1_0, q2_Y1_1⟩ := Y1.below hd2 (nl _); obtain ⟨q2_Z1_0, q2_Z1_1⟩ := Z1.below hd2 (nl _))
    | (go_at_call 47; refine (l02Make_c m _ _ _ _).mono ?_; rintro e wd3 ⟨rfl, hbd3⟩; have hd3 : Below w1.heap.size w1 wd3 := (by (repeat (first | exact bR _ _ | (refine bS ?_ _) | (refine bA ?_ _) | (refine bN ?_ _) | (refine bD ?_) | (refine bT ?_ hbd1) | (refine bT ?_ hbd2) | (refine bT ?_ hbd3)))); have hsd3 := hd3.size; have hsz3_ := hbd3.size; (try simp at hsz3_); obtain ⟨⟨q3_R_0, q3_R_1⟩, qf3_R⟩ := R1.below hd3 (nl _); obtain ⟨q3_X1_0, q3_X1_1⟩ := X1.below hd3 (nl _); obtain ⟨q3_Y1_0, q3_Y1_1⟩ := Y1.below hd3 (nl _); obtain ⟨q3_Z1_0, q3_Z1_1⟩ := Z1.below hd3 (nl _)))
  go_wp2
  refine bodyPost_ret (v := .tuple #[.agg #[.int .i64 m, .slice oa t.length ca], .int .i64 0]) (by simp [results, Tryz.results17, go_sem, q3_R_0, q3_R_1]) rfl ⟨_, rfl, ?_, ?_, hlen⟩
  ·have hbsz := B1.size
   exact (((hod2.below (by (repeat (first | exact bR _ _ | (refine bS ?_ _) | (refine bA ?_ _) | (refine bN ?_ _) | (refine bD ?_) | (refine bT ?_ hbd3))))).low (by first | (simp; done) | (simp; omega) | omega) _).low (by first | (simp; done) | (simp; omega) | omega) _).mono (by first | (simp; done) | (simp; omega) | omega)
  ·have hbsz := B1.size
   (repeat (first | exact bR _ _ | (refine bS ?_ _) | (refine bA ?_ _) | (refine bN ?_ _) | (refine bD ?_) | (refine bT ?_ hbd1) | (refine bT ?_ hbd2) | (refine bT ?_ hbd3) | (refine bT ?_ B1)))
 ·have hR : diffUR m t m1 xs m2 ys = SR.bad (curC m t [(m1, xs), (m2, ys)]) := by simp [diffUR, hc]
  rw [hR]
  clear hR
  obtain ⟨cc, hcc0⟩ : ∃ cc, curC m t [(m1, xs), (m2, ys)] = cc := ⟨_, rfl⟩
  rw [hcc0] at hc ⊢
  have HC := Lib.hid hcc0
  clear hcc0
  have hcc : (cc != 0) = true := by simpa using hc
  clear hc
  go_enter Tryz.func17, Tryz.ntmps17
  go_wp2_with fail
  (have X0 := ((RB2.mk1 w  (.int .i64 m) (.slice o t.length c) 26).1).below (w' := ((((w.alloc (.cells #[.int .i64 m, .slice o t.length c] 26)).alloc (.cells #[.int .i64 m1, .slice o1 xs.length c1] 34)).alloc (.cells #[.int .i64 m2, .slice o2 ys.length c2] 34)).alloc (.cells #[.int .i64 0, .slice none 0 0] 34))) bZ (nl _); have Y0 := ((RB2.mk2 w (.cells #[.int .i64 m, .slice o t.length c] 26) (.int .i64 m1) (.slice o1 xs.length c1) 34).1).below (w' := ((((w.alloc (.cells #[.int .i64 m, .slice o t.length c] 26)).alloc (.cells #[.int .i64 m1, .slice o1 xs.length c1] 34)).alloc (.cells #[.int .i64 m2, .slice o2 ys.length c2] 34)).alloc (.cells #[.int .i64 0, .slice none 0 0] 34))) bZ (nl _); have Z0 := ((RB2.mk3 w (.cells #[.int .i64 m, .slice o t.length c] 26) (.cells #[.int .i64 m1, .slice o1 xs.length c1] 34) (.int .i64 m2) (.slice o2 ys.length c2) 34).1).below (w' := ((((w.alloc (.cells #[.int .i64 m, .slice o t.length c] 26)).alloc (.cells #[.int .i64 m1, .slice o1 xs.length c1] 34)).alloc (.cells #[.int .i64 m2, .slice o2 ys.length c2] 34)).alloc (.cells #[.int .i64 0, .slice none 0 0] 34))) bZ (nl _); have R0 := ((RB2.mk4 w (.cells #[.int .i64 m, .slice o t.length c] 26) (.cells #[.int .i64 m1, .slice o1 xs.length c1] 34) (.cells #[.int .i64 m2, .slice o2 ys.length c2] 34) (.int .i64 0) (.slice none 0 0) 34)).below (w' := ((((w.alloc (.cells #[.int .i64 m, .slice o t.length c] 26)).alloc (.cells #[.int .i64 m1, .slice o1 xs.length c1] 34)).alloc (.cells #[.int .i64 m2, .slice o2 ys.length c2] 34)).alloc (.cells #[.int .i64 0, .slice none 0 0] 34))) bZ (nl _); have B0 : Below w.heap.size w ((((w.alloc (.cells #[.int .i64 m, .slice o t.length c] 26)).alloc (.cells #[.int .i64 m1, .slice o1 xs.length c1] 34)).alloc (.cells #[.int .i64 m2, .slice o2 ys.length c2] 34)).alloc (.cells #[.int .i64 0, .slice none 0 0] 34)) := bZ; have hv0 := hv.below (w' := ((((w.alloc (.cells #[.int .i64 m, .slice o t.length c] 26)).alloc (.cells #[.int .i64 m1, .slice o1 xs.length c1] 34)).alloc (.cells #[.int .i64 m2, .slice o2 ys.length c2] 34)).alloc (.cells #[.int .i64 0, .slice none 0 0] 34))) bZ (nl _); have hu0 := hu.below (w' := ((((w.alloc (.cells #[.int .i64 m, .slice o t.length c] 26)).alloc (.cells #[.int .i64 m1, .slice o1 xs.length c1] 34)).alloc (.cells #[.int .i64 m2, .slice o2 ys.length c2] 34)).alloc (.cells #[.int .i64 0, .slice none 0 0] 34))) bZ (nl _); have hu'0 := hu'.below (w' := ((((w.alloc (.cells #[.int .i64 m, .slice o t.length c] 26)).alloc (.cells #[.int .i64 m1, .slice o1 xs.length c1] 34)).alloc (.cells #[.int .i64 m2, .slice o2 ys.length c2] 34)).alloc (.cells #[.int .i64 0, .slice none 0 0] 34))) bZ (nl _); have HS0 := Lib.hid (show ((((w.alloc (.cells #[.int .i64 m, .slice o t.length c] 26)).alloc (.cells #[.int .i64 m1, .slice o1 xs.length c1] 34)).alloc (.cells #[.int .i64 m2, .slice o2 ys.length c2] 34)).alloc (.cells #[.int .i64 0, .slice none 0 0] 34)).heap.size = w.heap.size + 1 + 1 + 1 + 1 by simp); generalize (((w.alloc (.cells #[.int .i64 m, .slice o t.length c] 26)).alloc (.cells #[.int .i64 m1, .slice o1 xs.length c1] 34)).alloc (.cells #[.int .i64 m2, .slice o2 ys.length c2] 34)).alloc (.cells #[.int .i64 0, .slice none 0 0] 34) = w0 at X0 Y0 Z0 R0 B0 hv0 hu0 hu'0 HS0 ⊢)
  obtain ⟨x0, x1⟩ := id X0
  obtain ⟨y0, y1⟩ := id Y0
  obtain ⟨z0, z1⟩ := id Z0
  go_wp2_with fail
  have hzb : Below w0.heap.size w0 (w0.alloc (.cells #[.int .i64 m1, .slice o1 xs.length c1, .int .i64 m2, .slice o2 ys.length c2] 34)) := bZ
  refine (l04Code_c m _ _ t [(m1, xs), (m2, ys)] _ (hv0.below hzb (nl _)) (RdM.lit2c w0 HS0.out m1 m2 _ _ xs ys hu0 hu'0)).mono ?_
  clear hzb
  rw [HC.out]
  rintro e w1 ⟨rfl, hb⟩
  have hb := (show Below w0.heap.size w0 w1 from (by (repeat (first | exact bR _ _ | (refine bS ?_ _) | (refine bA ?_ _) | (refine bN ?_ _) | (refine bD ?_) | (refine bT ?_ hb)))))
  clear x0 x1 y0 y1 z0 z1 HS0
  (have R1 := R0.below hb (nl _); have B1 := B0.trans (hb.mono B0.size))
  clear hb
  (obtain ⟨⟨r0, r1⟩, rf⟩ := id R1; go_wp2; exact bodyPost_ret (v := .tuple #[.agg #[.int .i64 0, .slice none 0 0], .int .i64 cc]) (by simp [results, Tryz.results17, go_sem, r0, r1]) rfl ⟨_, rfl, OwI.nil _ _, (by (repeat (first | exact bR _ _ | (refine bS ?_ _) | (refine bA ?_ _) | (refine bN ?_ _) | (refine bD ?_) | (refine bT ?_ B1)))), by simp [SR.bad]⟩)

end Go.Proofs.YtfpphfjlpgefaaaGreat
