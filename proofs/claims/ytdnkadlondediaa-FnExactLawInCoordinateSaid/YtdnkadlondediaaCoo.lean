/- Laws in other coordinates; logarithms: the functions that are called. -/
import Derived.Test.YtdnkadlondediaaSame
import Derived.Test.YtdnkadlondediaaCurv
import Derived.Test.YtdnkadlondediaaLawO
import Derived.Test.YtdnkadlondediaaBotB
import Derived.Test.YtdnkadlondediaaBotS
set_option linter.unusedSimpArgs false
set_option linter.unusedVariables false
namespace Go.Proofs.Ytdnkadlondediaa
open Go.RowKit

theorem botM_len (m : Int) (n : Nat) (t : List (List Int)) (a b : List Int) : (botL m n t a b).length = n := tri_len _ _
theorem botM_ok {m : Int} (hm : 0 < m) (n : Nat) (t : List (List Int)) (a b : List Int) : PlaT m n (botL m n t a b) := botTo_ok hm _ _ _ _ _ _
/-- The law in a coordinate. -/
def cooT (m : Int) (n : Nat) (t : List (List Int)) (a : List Int) : List (List Int) := hornT m n (botL m n t (revL m n a) (revL m n a)) a
theorem cooT_len (m : Int) (n : Nat) (t : List (List Int)) (a : List Int) : (cooT m n t a).length = n := hornT_len _ _ _ _
theorem cooT_size {m : Int} {n : Nat} (hn : n ≤ 1000) (t : List (List Int)) (a : List Int) : sizeT (cooT m n t a) ≤ 1048576 := by
  unfold cooT
  cases a <;> exact sizeT_tri hn _
def cooR (m : Int) (t : List (List Int)) (m1 : Int) (xs : List Int) : PR :=
  if curC m t [(m1, xs)] = 0 then (if unitB m (at0 xs 1) then ⟨m, cooT m t.length t xs, 0⟩ else PR.bad 5) else PR.bad (curC m t [(m1, xs)])

/-- What a function hands back that answers with a truth and a code. -/
structure BR where
  val : Bool
  code : Int
def BEnd (w w' : World) (r : BR) (e : Ending) : Prop := e = .returned (.tuple #[.bool r.val, .int .i64 r.code]) ∧ Below w.heap.size w w'
def logB (m : Int) (t : List (List Int)) (xs : List Int) : Bool := (at0 xs 1 == 1) && eqTB (hornT m t.length t xs) (twoT t.length xs)
def isLogR (m : Int) (t : List (List Int)) (m1 : Int) (xs : List Int) : BR := if curC m t [(m1, xs)] = 0 then ⟨logB m t xs, 0⟩ else ⟨false, curC m t [(m1, xs)]⟩

set_option maxHeartbeats 4000000 in
set_option maxRecDepth 100000 in
theorem inCoordinate_c (m : Int) (n : Nat) (v u : Value) (t : List (List Int)) (xs : List Int) (w : World) (hv : RdT w v t) (hu : RdI w u xs) (hl : xs.length = n) (h1 : 2 ≤ n) (hn : n ≤ 1000) (hm : 2 ≤ m) (hm' : m ≤ 10000) (ht : PlaT m n t) (hx : ∀ x ∈ xs, 0 ≤ x ∧ x < m) :
    Calls Try.prog 88 #[.agg #[.int .i64 m, v], .agg #[.int .i64 m, u]] w fun e w' => PVEnd w w' m (cooT m n t xs) e := by
  subst hl
  obtain ⟨o, c, rfl, -, -⟩ := id hv
  obtain ⟨o', c', rfl, -, -⟩ := id hu
  have hv' : RdT w (.slice o xs.length c) t := by rw [ht.1] at hv; exact hv
  rw [ht.1]
  have HT := Lib.hid ht
  have HRl := Lib.hid (revL_len m xs.length xs)
  have HRr := Lib.hid (revL_range (m := m) (show 0 < m by omega) xs.length xs)
  have HBo := Lib.hid (botM_ok (m := m) (show 0 < m by omega) xs.length t (revL m xs.length xs) (revL m xs.length xs))
  have HC := Lib.hid (show hornT m xs.length (botL m xs.length t (revL m xs.length xs) (revL m xs.length xs)) xs = cooT m xs.length t xs from rfl)
  clear ht hv
  go_enter Try.func88, Try.ntmps88
  go_wp2_with fail
  (have X0 := ((RB2.mk1 w  (.int .i64 m) (.slice o xs.length c) 32).1).below (w' := (((w.alloc (.cells #[.int .i64 m, .slice o xs.length c] 32)).alloc (.cells #[.int .i64 m, .slice o' xs.length c'] 34)).alloc (.cells #[.int .i64 0, .slice none 0 0] 32))) (by (repeat (first | exact Below.refl _ _ | (refine Below.setCell ?_ (by first | (simp; done) | (simp; omega) | omega) _) | (refine Below.alloc ?_ (by first | (simp; done) | (simp; omega) | omega) _) | (refine below_drewN ?_ _) | (refine Below.drew ?_)))) (Nat.le_refl _); have Y0 := ((RB2.mk2 w (.cells #[.int .i64 m, .slice o xs.length c] 32) (.int .i64 m) (.slice o' xs.length c') 34).1).below (w' := (((w.alloc (.cells #[.int .i64 m, .slice o xs.length c] 32)).alloc (.cells #[.int .i64 m, .slice o' xs.length c'] 34)).alloc (.cells #[.int .i64 0, .slice none 0 0] 32))) (by (repeat (first | exact Below.refl _ _ | (refine Below.setCell ?_ (by first | (simp; done) | (simp; omega) | omega) _) | (refine Below.alloc ?_ (by first | (simp; done) | (simp; omega) | omega) _) | (refine below_drewN ?_ _) | (refine Below.drew ?_)))) (Nat.le_refl _); have R0 := ((RB2.mk3 w (.cells #[.int .i64 m, .slice o xs.length c] 32) (.cells #[.int .i64 m, .slice o' xs.length c'] 34) (.int .i64 0) (.slice none 0 0) 32)).below (w' := (((w.alloc (.cells #[.int .i64 m, .slice o xs.length c] 32)).alloc (.cells #[.int .i64 m, .slice o' xs.length c'] 34)).alloc (.cells #[.int .i64 0, .slice none 0 0] 32))) (by (repeat (first | exact Below.refl _ _ | (refine Below.setCell ?_ (by first | (simp; done) | (simp; omega) | omega) _) | (refine Below.alloc ?_ (by first | (simp; done) | (simp; omega) | omega) _) | (refine below_drewN ?_ _) | (refine Below.drew ?_)))) (Nat.le_refl _); have B0 : Below w.heap.size w (((w.alloc (.cells #[.int .i64 m, .slice o xs.length c] 32)).alloc (.cells #[.int .i64 m, .slice o' xs.length c'] 34)).alloc (.cells #[.int .i64 0, .slice none 0 0] 32)) := (by (repeat (first | exact Below.refl _ _ | (refine Below.setCell ?_ (by first | (simp; done) | (simp; omega) | omega) _) | (refine Below.alloc ?_ (by first | (simp; done) | (simp; omega) | omega) _) | (refine below_drewN ?_ _) | (refine Below.drew ?_)))); have hv'0 := hv'.below (w' := (((w.alloc (.cells #[.int .i64 m, .slice o xs.length c] 32)).alloc (.cells #[.int .i64 m, .slice o' xs.length c'] 34)).alloc (.cells #[.int .i64 0, .slice none 0 0] 32))) (by (repeat (first | exact Below.refl _ _ | (refine Below.setCell ?_ (by first | (simp; done) | (simp; omega) | omega) _) | (refine Below.alloc ?_ (by first | (simp; done) | (simp; omega) | omega) _) | (refine below_drewN ?_ _) | (refine Below.drew ?_)))) (Nat.le_refl _); have hu0 := hu.below (w' := (((w.alloc (.cells #[.int .i64 m, .slice o xs.length c] 32)).alloc (.cells #[.int .i64 m, .slice o' xs.length c'] 34)).alloc (.cells #[.int .i64 0, .slice none 0 0] 32))) (by (repeat (first | exact Below.refl _ _ | (refine Below.setCell ?_ (by first | (simp; done) | (simp; omega) | omega) _) | (refine Below.alloc ?_ (by first | (simp; done) | (simp; omega) | omega) _) | (refine below_drewN ?_ _) | (refine Below.drew ?_)))) (Nat.le_refl _); generalize ((w.alloc (.cells #[.int .i64 m, .slice o xs.length c] 32)).alloc (.cells #[.int .i64 m, .slice o' xs.length c'] 34)).alloc (.cells #[.int .i64 0, .slice none 0 0] 32) = w0 at X0 Y0 R0 B0 hv'0 hu0 ⊢)
  obtain ⟨y0, y1⟩ := id Y0
  have B0s := B0.size
  go_wp2_with fail
  refine (reverseS_c m _ xs _ hu0 (by omega) (by omega) (by omega) (by omega) hx).mono ?_
  rintro e w1 ⟨vr, rfl, hor, hb⟩
  obtain ⟨or, cr, rfl⟩ := hor.shapeN (n := xs.length) HRl.out
  clear y0 y1
  (have X1 := X0.below hb (Nat.le_refl _); have Y1 := Y0.below hb (Nat.le_refl _); have R1 := R0.below hb (Nat.le_refl _); have hv'1 := hv'0.below hb (Nat.le_refl _); have hu1 := hu0.below hb (Nat.le_refl _); have B1 := B0.trans (hb.mono B0.size))
  have hb1 := hb.size
  have lR := R1.1.lt
  go_wp2_with fail
  (have hb : Below w1.heap.size w1 (w1.alloc (.cells #[.int .i64 m, .slice or xs.length cr] 34)) := (by (repeat (first | exact Below.refl _ _ | (refine Below.setCell ?_ (by first | (simp; done) | (simp; omega) | omega) _) | (refine Below.alloc ?_ (by first | (simp; done) | (simp; omega) | omega) _) | (refine below_drewN ?_ _) | (refine Below.drew ?_)))); have X2 := X1.below hb (Nat.le_refl _); have Y2 := Y1.below hb (Nat.le_refl _); have R2 := R1.below hb (Nat.le_refl _); have hv'2 := hv'1.below hb (Nat.le_refl _); have hu2 := hu1.below hb (Nat.le_refl _); have hor := hor.alloc (.cells #[.int .i64 m, .slice or xs.length cr] 34); have B2 := B1.trans (hb.mono B1.size); have O := RB2.mk1 w1 (.int .i64 m) (.slice or xs.length cr) 34; have hl_w2 := hb.size; clear hb; generalize w1.alloc (.cells #[.int .i64 m, .slice or xs.length cr] 34) = w2 at O B2 hl_w2 X2 Y2 R2 hv'2 hu2 hor ⊢)
  have hor2 := hor.rd
  have hB2 := B2.size
  have hd0 : Below w2.heap.size w2 w2.drew := (Below.refl _ _).drew
  have hsd0 := hd0.size
  have hrl := R2.1.lt
  have hneR_X2 : w.heap.size + 2 ≠ w.heap.size := by omega
  have hneR_Y2 : w.heap.size + 2 ≠ w.heap.size + 1 := by omega
  have hneR_O1 : w.heap.size + 2 ≠ w1.heap.size := by omega
  obtain ⟨⟨q0_R_0, q0_R_1⟩, qf0_R⟩ := R2.below (Below.refl w2.heap.size w2) (Nat.le_refl _)
  obtain ⟨q0_X2_0, q0_X2_1⟩ := X2.below (Below.refl w2.heap.size w2) (Nat.le_refl _)
  obtain ⟨q0_Y2_0, q0_Y2_1⟩ := Y2.below (Below.refl w2.heap.size w2) (Nat.le_refl _)
  obtain ⟨q0_O1_0, q0_O1_1⟩ := O.1.below (Below.refl w2.heap.size w2) (Nat.le_refl _)
  go_region_held3 (fun w' => w'.cell? ⟨w.heap.size, 0, none⟩ = some (.int .i64 m) ∧ w'.cell? ⟨w.heap.size, 1, none⟩ = some (.slice o xs.length c) ∧ w'.cell? ⟨w.heap.size + 1, 0, none⟩ = some (.int .i64 m) ∧ w'.cell? ⟨w.heap.size + 1, 1, none⟩ = some (.slice o' xs.length c') ∧ w'.cell? ⟨w1.heap.size, 0, none⟩ = some (.int .i64 m) ∧ w'.cell? ⟨w1.heap.size, 1, none⟩ = some (.slice or xs.length cr)) (go_keep)
    (first
      | (go_at_call 144; refine (bothP_c m xs.length _ _ _ t (revL m xs.length xs) (revL m xs.length xs) _ ((hv'2).below (by (repeat (first | exact Below.refl _ _ | (refine Below.setCell ?_ (by first | (simp; done) | (simp; omega) | omega) _) | (refine Below.alloc ?_ (by first | (simp; done) | (simp; omega) | omega) _) | (refine below_drewN ?_ _) | (refine Below.drew ?_)))) (Nat.le_refl _)) ((hor2).below (by (repeat (first | exact Below.refl _ _ | (refine Below.setCell ?_ (by first | (simp; done) | (simp; omega) | omega) _) | (refine Below.alloc ?_ (by first | (simp; done) | (simp; omega) | omega) _) | (refine below_drewN ?_ _) | (refine Below.drew ?_)))) (Nat.le_refl _)) ((hor2).below (by (repeat (first | exact Below.refl _ _ | (refine Below.setCell ?_ (by first | (simp; done) | (simp; omega) | omega) _) | (refine Below.alloc ?_ (by first | (simp; done) | (simp; omega) | omega) _) | (refine below_drewN ?_ _) | (refine Below.drew ?_)))) (Nat.le_refl _)) HRl.out HRl.out (by omega) (by omega) hm hm' HT.out HRr.out HRr.out).mono ?_; rintro e wd1 ⟨vb, rfl, hod1, hbd1⟩; obtain ⟨ob, cb, rfl⟩ := hod1.shapeN (n := xs.length) (botM_len _ _ _ _ _); have hd1 : Below w2.heap.size w2 wd1 := (by (repeat (first | exact Below.refl _ _ | (refine Below.setCell ?_ (by first | (simp; done) | (simp; omega) | omega) _) | (refine Below.alloc ?_ (by first | (simp; done) | (simp; omega) | omega) _) | (refine below_drewN ?_ _) | (refine Below.drew ?_) | (refine Below.trans ?_ (Below.mono hbd1 (by first | (simp; done) | (simp; omega) | omega)))))); have hsd1 := hd1.size; have hsz1_ := hbd1.size; (try simp at hsz1_); obtain ⟨⟨q1_R_0, q1_R_1⟩, qf1_R⟩ := R2.below hd1 (Nat.le_refl _); obtain ⟨q1_X2_0, q1_X2_1⟩ := X2.below hd1 (Nat.le_refl _); obtain ⟨q1_Y2_0, q1_Y2_1⟩ := Y2.below hd1 (Nat.le_refl _); obtain ⟨q1_O1_0, q1_O1_1⟩ := O.1.below hd1 (Nat.le_refl _))
      | (go_at_call 55; refine (ofS_c m m xs.length _ _ xs (botL m xs.length t (revL m xs.length xs) (revL m xs.length xs)) _ ((hu2).below (by (repeat (first | exact Below.refl _ _ | (refine Below.setCell ?_ (by first | (simp; done) | (simp; omega) | omega) _) | (refine Below.alloc ?_ (by first | (simp; done) | (simp; omega) | omega) _) | (refine below_drewN ?_ _) | (refine Below.drew ?_) | (refine Below.trans ?_ (Below.mono hbd1 (by first | (simp; done) | (simp; omega) | omega)))))) (Nat.le_refl _)) ((hod1.below (by (repeat (first | exact Below.refl _ _ | (refine Below.setCell ?_ (by first | (simp; done) | (simp; omega) | omega) _) | (refine Below.alloc ?_ (by first | (simp; done) | (simp; omega) | omega) _) | (refine below_drewN ?_ _) | (refine Below.drew ?_)))))).rd (by omega) (by omega) (by omega) (by omega) hm (by omega) hx HBo.out).mono ?_; rintro e wd2 ⟨vl, rfl, hod2, hbd2⟩; rw [HC.out] at hod2; obtain ⟨ol, cl, rfl⟩ := hod2.shapeN (n := xs.length) (cooT_len _ _ _ _); have hd2 : Below w2.heap.size w2 wd2 := (by (repeat (first | exact Below.refl _ _ | (refine Below.setCell ?_ (by first | (simp; done) | (simp; omega) | omega) _) | (refine Below.alloc ?_ (by first | (simp; done) | (simp; omega) | omega) _) | (refine below_drewN ?_ _) | (refine Below.drew ?_) | (refine Below.trans ?_ (Below.mono hbd1 (by first | (simp; done) | (simp; omega) | omega))) | (refine Below.trans ?_ (Below.mono hbd2 (by first | (simp; done) | (simp; omega) | omega)))))); have hsd2 := hd2.size; have hsz2_ := hbd2.size; (try simp at hsz2_); obtain ⟨⟨q2_R_0, q2_R_1⟩, qf2_R⟩ := R2.below hd2 (Nat.le_refl _); obtain ⟨q2_X2_0, q2_X2_1⟩ := X2.below hd2 (Nat.le_refl _); obtain ⟨q2_Y2_0, q2_Y2_1⟩ := Y2.below hd2 (Nat.le_refl _); obtain ⟨q2_O1_0, q2_O1_1⟩ := O.1.below hd2 (Nat.le_refl _)))
  go_wp2
  refine bodyPost_ret (v := .agg #[.int .i64 m, .slice ol xs.length cl]) (by simp [results, Try.results88, go_sem, q2_R_0, q2_R_1]) rfl ⟨_, rfl, ?_, ?_⟩
  · have hbsz := B2.size
    exact ((hod2.low (by first | (simp; done) | (simp; omega) | omega) _).low (by first | (simp; done) | (simp; omega) | omega) _).mono (by first | (simp; done) | (simp; omega) | omega)
  · have hbsz := B2.size
    (repeat (first | exact Below.refl _ _ | (refine Below.setCell ?_ (by first | (simp; done) | (simp; omega) | omega) _) | (refine Below.alloc ?_ (by first | (simp; done) | (simp; omega) | omega) _) | (refine below_drewN ?_ _) | (refine Below.drew ?_) | (refine Below.trans ?_ (Below.mono hbd1 (by first | (simp; done) | (simp; omega) | omega))) | (refine Below.trans ?_ (Below.mono hbd2 (by first | (simp; done) | (simp; omega) | omega))) | (refine Below.trans ?_ (Below.mono B2 (by first | (simp; done) | (simp; omega) | omega)))))

set_option maxHeartbeats 400000 in
theorem l03Both2_c (m : Int) (n : Nat) (v u : Value) (t : List (List Int)) (xs : List Int) (w : World) (hv : RdT w v t) (hu : RdI w u xs) (hlx : xs.length = n) (h1 : 1 ≤ n) (hn : n ≤ 1000) (hm : 2 ≤ m) (hm' : m ≤ 10000)
    (ht : PlaT m n t) (hx : ∀ x ∈ xs, 0 ≤ x ∧ x < m) (hx0 : at0 xs 0 = 0) :
    Calls Try.prog 140 #[.int .i64 m, v, u] w fun e w' => ∃ v', e = .returned v' ∧ OwS w' w.heap.size v' (botL m n t xs xs) ∧ Below w.heap.size w w' := by
  have HX := Lib.hid hx0
  clear hx0
  go_enter Try.func140, Try.ntmps140
  go_wp2_with fail
  refine (l03Both_c m n _ _ _ t xs xs _ hv hu hu hlx hlx h1 hn hm hm' ht hx hx HX.out HX.out).mono ?_
  rintro e w1 ⟨v', rfl, how, hb⟩
  go_wp2
  go_ret
  exact ⟨_, rfl, how, hb⟩

set_option maxHeartbeats 2000000 in
set_option maxRecDepth 100000 in
theorem l06Conjugate_c (m : Int) (n : Nat) (v u : Value) (t : List (List Int)) (xs : List Int) (w : World) (hv : RdT w v t) (hu : RdI w u xs) (hl : xs.length = n) (h1 : 2 ≤ n) (hn : n ≤ 1000) (hm : 2 ≤ m) (hm' : m ≤ 10000) (ht : PlaT m n t) (hx : ∀ x ∈ xs, 0 ≤ x ∧ x < m) :
    Calls Try.prog 86 #[.int .i64 m, v, u] w fun e w' => ∃ v', e = .returned v' ∧ OwS w' w.heap.size v' (cooT m n t xs) ∧ Below w.heap.size w w' := by
  subst hl
  obtain ⟨o', c', rfl, hmx, -⟩ := id hu
  unfold maxLen at hmx
  have HRl := Lib.hid (revL_len m xs.length xs)
  have HRr := Lib.hid (revL_range (m := m) (show 0 < m by omega) xs.length xs)
  have HR0 := Lib.hid (show at0 (revL m xs.length xs) 0 = 0 from revTo_0 _ _ _ _)
  have HBo := Lib.hid (botM_ok (m := m) (show 0 < m by omega) xs.length t (revL m xs.length xs) (revL m xs.length xs))
  go_enter Try.func86, Try.ntmps86
  go_wp2_with fail
  refine (l02Reverse_c m ((xs.length : Int) - 1) xs.length _ xs _ (by omega) hu rfl (by omega) (by omega) (by omega) (by omega) hx).mono ?_
  rintro e w1 ⟨vr, rfl, hor, B1⟩
  obtain ⟨or, cr, rfl⟩ := hor.shapeN (n := xs.length) HRl.out
  go_wp2_with fail
  refine (l03Both2_c m xs.length _ _ t (revL m xs.length xs) _ (hv.below B1 (Nat.le_refl _)) hor.rd HRl.out (by omega) (by omega) hm hm' ht HRr.out HR0.out).mono ?_
  rintro e w2 ⟨vt, rfl, hot, hb2⟩
  obtain ⟨ot, ct, rfl⟩ := hot.shapeN (n := xs.length) (botM_len _ _ _ _ _)
  have B2 := B1.trans (hb2.mono B1.size)
  go_wp2_with fail
  refine (l03After_c m xs.length _ _ xs _ _ (hu.below B2 (Nat.le_refl _)) hot.rd (by omega) (by omega) (by omega) (by omega) (by omega) hx HBo.out).mono ?_
  rintro e w3 ⟨vl, rfl, hol, hb3⟩
  have hBs := B2.size
  have B3 := B2.trans (hb3.mono hBs)
  go_wp2
  go_ret
  exact ⟨_, rfl, hol.mono hBs, B3⟩

set_option maxHeartbeats 4000000 in
set_option maxRecDepth 100000 in
theorem LawInCoordinate_c (m : Int) (v : Value) (t : List (List Int)) (m1 : Int) (u : Value) (xs : List Int) (w : World) (hv : RdT w v t) (hu : RdI w u xs) :
    Calls Try.prog 28 #[.agg #[.int .i64 m, v], .agg #[.int .i64 m1, u]] w fun e w' => PEnd w w' (cooR m t m1 xs) e := by
  obtain ⟨o, c, rfl, -, -⟩ := id hv
  obtain ⟨o1, c1, rfl, hmu, -⟩ := id hu
  by_cases hc : curC m t [(m1, xs)] = 0
  · obtain ⟨a1, a2⟩ := curC_0 hc
    obtain ⟨s1, e1, l1, z1⟩ := a2 (m1, xs) (by simp)
    replace s1 : serB m1 xs = true := s1
    replace l1 : xs.length = t.length := l1
    replace e1 : m = m1 := e1.symm
    replace z1 : at0 xs 0 = 0 := z1
    subst e1
    have hp := (lawB_t a1).1
    have hn := pla_n hp
    have hm := pla_m hp
    have hx := ser_x s1
    have HC := Lib.hid hc
    have HT := Lib.hid (show PlaT m t.length t from ⟨rfl, pla_row hp⟩)
    have HLX := Lib.hid l1
    have HZ := Lib.hid z1
    have hcc : ((0 : Int) != 0) = false := by simp
    have hcd : ((0 : Int) == 0) = true := by simp
    have hnx := ser_n s1
    clear a1 a2 hp s1
    unfold maxLen at hmu
    obtain ⟨bx, fx, rfl, hcx⟩ := hu.cells (by omega)
    have c1x : w.cell? ⟨bx, fx + 1, none⟩ = some (.int .i64 (at0 xs 1)) := hcx 1 _ (some_at0 (by omega))
    have hr1 := at0_range (by omega) hx 1
    have i1 : (1 : Int) < (xs.length : Int) := by omega
    have i3 : 1 < xs.length := by omega
    have lc1 := cell_lt c1x
    clear hcx l1
    cases hun : unitB m (at0 xs 1)
    · have hR : cooR m t m xs = PR.bad 5 := by simp [cooR, hc, hun]
      rw [hR]
      clear hR hc z1
      go_enter Try.func28, Try.ntmps28
      go_wp2_with fail
      (have X0 := ((RB2.mk1 w  (.int .i64 m) (.slice o t.length c) 32).1).below (w' := (((w.alloc (.cells #[.int .i64 m, .slice o t.length c] 32)).alloc (.cells #[.int .i64 m, .slice (some ⟨bx, fx, none⟩) xs.length c1] 34)).alloc (.cells #[.int .i64 0, .slice none 0 0] 32))) (by (repeat (first | exact Below.refl _ _ | (refine Below.setCell ?_ (by first | (simp; done) | (simp; omega) | omega) _) | (refine Below.alloc ?_ (by first | (simp; done) | (simp; omega) | omega) _) | (refine below_drewN ?_ _) | (refine Below.drew ?_)))) (Nat.le_refl _); have Y0 := ((RB2.mk2 w (.cells #[.int .i64 m, .slice o t.length c] 32) (.int .i64 m) (.slice (some ⟨bx, fx, none⟩) xs.length c1) 34).1).below (w' := (((w.alloc (.cells #[.int .i64 m, .slice o t.length c] 32)).alloc (.cells #[.int .i64 m, .slice (some ⟨bx, fx, none⟩) xs.length c1] 34)).alloc (.cells #[.int .i64 0, .slice none 0 0] 32))) (by (repeat (first | exact Below.refl _ _ | (refine Below.setCell ?_ (by first | (simp; done) | (simp; omega) | omega) _) | (refine Below.alloc ?_ (by first | (simp; done) | (simp; omega) | omega) _) | (refine below_drewN ?_ _) | (refine Below.drew ?_)))) (Nat.le_refl _); have R0 := ((RB2.mk3 w (.cells #[.int .i64 m, .slice o t.length c] 32) (.cells #[.int .i64 m, .slice (some ⟨bx, fx, none⟩) xs.length c1] 34) (.int .i64 0) (.slice none 0 0) 32)).below (w' := (((w.alloc (.cells #[.int .i64 m, .slice o t.length c] 32)).alloc (.cells #[.int .i64 m, .slice (some ⟨bx, fx, none⟩) xs.length c1] 34)).alloc (.cells #[.int .i64 0, .slice none 0 0] 32))) (by (repeat (first | exact Below.refl _ _ | (refine Below.setCell ?_ (by first | (simp; done) | (simp; omega) | omega) _) | (refine Below.alloc ?_ (by first | (simp; done) | (simp; omega) | omega) _) | (refine below_drewN ?_ _) | (refine Below.drew ?_)))) (Nat.le_refl _); have B0 : Below w.heap.size w (((w.alloc (.cells #[.int .i64 m, .slice o t.length c] 32)).alloc (.cells #[.int .i64 m, .slice (some ⟨bx, fx, none⟩) xs.length c1] 34)).alloc (.cells #[.int .i64 0, .slice none 0 0] 32)) := (by (repeat (first | exact Below.refl _ _ | (refine Below.setCell ?_ (by first | (simp; done) | (simp; omega) | omega) _) | (refine Below.alloc ?_ (by first | (simp; done) | (simp; omega) | omega) _) | (refine below_drewN ?_ _) | (refine Below.drew ?_)))); have hv0 := hv.below (w' := (((w.alloc (.cells #[.int .i64 m, .slice o t.length c] 32)).alloc (.cells #[.int .i64 m, .slice (some ⟨bx, fx, none⟩) xs.length c1] 34)).alloc (.cells #[.int .i64 0, .slice none 0 0] 32))) (by (repeat (first | exact Below.refl _ _ | (refine Below.setCell ?_ (by first | (simp; done) | (simp; omega) | omega) _) | (refine Below.alloc ?_ (by first | (simp; done) | (simp; omega) | omega) _) | (refine below_drewN ?_ _) | (refine Below.drew ?_)))) (Nat.le_refl _); have hu0 := hu.below (w' := (((w.alloc (.cells #[.int .i64 m, .slice o t.length c] 32)).alloc (.cells #[.int .i64 m, .slice (some ⟨bx, fx, none⟩) xs.length c1] 34)).alloc (.cells #[.int .i64 0, .slice none 0 0] 32))) (by (repeat (first | exact Below.refl _ _ | (refine Below.setCell ?_ (by first | (simp; done) | (simp; omega) | omega) _) | (refine Below.alloc ?_ (by first | (simp; done) | (simp; omega) | omega) _) | (refine below_drewN ?_ _) | (refine Below.drew ?_)))) (Nat.le_refl _); have HS0 := Lib.hid (show (((w.alloc (.cells #[.int .i64 m, .slice o t.length c] 32)).alloc (.cells #[.int .i64 m, .slice (some ⟨bx, fx, none⟩) xs.length c1] 34)).alloc (.cells #[.int .i64 0, .slice none 0 0] 32)).heap.size = w.heap.size + 1 + 1 + 1 by simp); generalize ((w.alloc (.cells #[.int .i64 m, .slice o t.length c] 32)).alloc (.cells #[.int .i64 m, .slice (some ⟨bx, fx, none⟩) xs.length c1] 34)).alloc (.cells #[.int .i64 0, .slice none 0 0] 32) = w0 at X0 Y0 R0 B0 hv0 hu0 HS0 ⊢)
      obtain ⟨x0, x1⟩ := id X0
      obtain ⟨y0, y1⟩ := id Y0
      go_wp2_with fail
      have hzb : Below w0.heap.size w0 (w0.alloc (.cells #[.int .i64 m, .slice (some ⟨bx, fx, none⟩) xs.length c1] 34)) := (by (repeat (first | exact Below.refl _ _ | (refine Below.setCell ?_ (by first | (simp; done) | (simp; omega) | omega) _) | (refine Below.alloc ?_ (by first | (simp; done) | (simp; omega) | omega) _) | (refine below_drewN ?_ _) | (refine Below.drew ?_))))
      refine (curved_c m _ _ t [(m, xs)] _ (hv0.below hzb (Nat.le_refl _)) (RdM.lit1c w0 HS0.out m _ xs hu0)).mono ?_
      clear hzb
      rw [HC.out]
      rintro e w1 ⟨rfl, hb⟩
      have hb := (show Below w0.heap.size w0 w1 from (by (repeat (first | exact Below.refl _ _ | (refine Below.setCell ?_ (by first | (simp; done) | (simp; omega) | omega) _) | (refine Below.alloc ?_ (by first | (simp; done) | (simp; omega) | omega) _) | (refine below_drewN ?_ _) | (refine Below.drew ?_) | (refine Below.trans ?_ (Below.mono hb (by first | (simp; done) | (simp; omega) | omega)))))))
      clear x0 x1 y0 y1 HS0
      (have X1 := X0.below hb (Nat.le_refl _); have Y1 := Y0.below hb (Nat.le_refl _); have R1 := R0.below hb (Nat.le_refl _); have hv1 := hv0.below hb (Nat.le_refl _); have hu1 := hu0.below hb (Nat.le_refl _); have B1 := B0.trans (hb.mono B0.size))
      clear hb
      have hco : coB m xs = false := by simp [coB, hun]
      (obtain ⟨gqY0, gqY1⟩ := id Y1; go_wp2_with fail; refine (isCoordinate_c m _ xs _ hu1 (by omega) (by omega) (by omega) hx).mono ?_; rw [hco]; rintro e w2 ⟨rfl, hb⟩; (have R2 := R1.below hb (Nat.le_refl _); have B2 := B1.trans (hb.mono B1.size)); clear gqY0 gqY1; clear hb)
      (obtain ⟨⟨r0, r1⟩, rf⟩ := id R2; go_wp2; exact bodyPost_ret (v := .tuple #[.agg #[.int .i64 0, .slice none 0 0], .int .i64 5]) (by simp [results, Try.results28, go_sem, r0, r1]) rfl ⟨_, rfl, OwS.nil _ _, (by (repeat (first | exact Below.refl _ _ | (refine Below.setCell ?_ (by first | (simp; done) | (simp; omega) | omega) _) | (refine Below.alloc ?_ (by first | (simp; done) | (simp; omega) | omega) _) | (refine below_drewN ?_ _) | (refine Below.drew ?_) | (refine Below.trans ?_ (Below.mono B2 (by first | (simp; done) | (simp; omega) | omega)))))), by simp [PR.bad, sizeT, numT]⟩)
    · have hR : cooR m t m xs = ⟨m, cooT m t.length t xs, 0⟩ := by simp [cooR, hc, hun]
      rw [hR]
      have HLT := Lib.hid (cooT_len m t.length t xs)
      have hlen := cooT_size (m := m) (show t.length ≤ 1000 by omega) t xs
      clear hR hc
      have hz1 := z1
      clear z1
      go_enter Try.func28, Try.ntmps28
      go_wp2_with fail
      (have X0 := ((RB2.mk1 w  (.int .i64 m) (.slice o t.length c) 32).1).below (w' := (((w.alloc (.cells #[.int .i64 m, .slice o t.length c] 32)).alloc (.cells #[.int .i64 m, .slice (some ⟨bx, fx, none⟩) xs.length c1] 34)).alloc (.cells #[.int .i64 0, .slice none 0 0] 32))) (by (repeat (first | exact Below.refl _ _ | (refine Below.setCell ?_ (by first | (simp; done) | (simp; omega) | omega) _) | (refine Below.alloc ?_ (by first | (simp; done) | (simp; omega) | omega) _) | (refine below_drewN ?_ _) | (refine Below.drew ?_)))) (Nat.le_refl _); have Y0 := ((RB2.mk2 w (.cells #[.int .i64 m, .slice o t.length c] 32) (.int .i64 m) (.slice (some ⟨bx, fx, none⟩) xs.length c1) 34).1).below (w' := (((w.alloc (.cells #[.int .i64 m, .slice o t.length c] 32)).alloc (.cells #[.int .i64 m, .slice (some ⟨bx, fx, none⟩) xs.length c1] 34)).alloc (.cells #[.int .i64 0, .slice none 0 0] 32))) (by (repeat (first | exact Below.refl _ _ | (refine Below.setCell ?_ (by first | (simp; done) | (simp; omega) | omega) _) | (refine Below.alloc ?_ (by first | (simp; done) | (simp; omega) | omega) _) | (refine below_drewN ?_ _) | (refine Below.drew ?_)))) (Nat.le_refl _); have R0 := ((RB2.mk3 w (.cells #[.int .i64 m, .slice o t.length c] 32) (.cells #[.int .i64 m, .slice (some ⟨bx, fx, none⟩) xs.length c1] 34) (.int .i64 0) (.slice none 0 0) 32)).below (w' := (((w.alloc (.cells #[.int .i64 m, .slice o t.length c] 32)).alloc (.cells #[.int .i64 m, .slice (some ⟨bx, fx, none⟩) xs.length c1] 34)).alloc (.cells #[.int .i64 0, .slice none 0 0] 32))) (by (repeat (first | exact Below.refl _ _ | (refine Below.setCell ?_ (by first | (simp; done) | (simp; omega) | omega) _) | (refine Below.alloc ?_ (by first | (simp; done) | (simp; omega) | omega) _) | (refine below_drewN ?_ _) | (refine Below.drew ?_)))) (Nat.le_refl _); have B0 : Below w.heap.size w (((w.alloc (.cells #[.int .i64 m, .slice o t.length c] 32)).alloc (.cells #[.int .i64 m, .slice (some ⟨bx, fx, none⟩) xs.length c1] 34)).alloc (.cells #[.int .i64 0, .slice none 0 0] 32)) := (by (repeat (first | exact Below.refl _ _ | (refine Below.setCell ?_ (by first | (simp; done) | (simp; omega) | omega) _) | (refine Below.alloc ?_ (by first | (simp; done) | (simp; omega) | omega) _) | (refine below_drewN ?_ _) | (refine Below.drew ?_)))); have hv0 := hv.below (w' := (((w.alloc (.cells #[.int .i64 m, .slice o t.length c] 32)).alloc (.cells #[.int .i64 m, .slice (some ⟨bx, fx, none⟩) xs.length c1] 34)).alloc (.cells #[.int .i64 0, .slice none 0 0] 32))) (by (repeat (first | exact Below.refl _ _ | (refine Below.setCell ?_ (by first | (simp; done) | (simp; omega) | omega) _) | (refine Below.alloc ?_ (by first | (simp; done) | (simp; omega) | omega) _) | (refine below_drewN ?_ _) | (refine Below.drew ?_)))) (Nat.le_refl _); have hu0 := hu.below (w' := (((w.alloc (.cells #[.int .i64 m, .slice o t.length c] 32)).alloc (.cells #[.int .i64 m, .slice (some ⟨bx, fx, none⟩) xs.length c1] 34)).alloc (.cells #[.int .i64 0, .slice none 0 0] 32))) (by (repeat (first | exact Below.refl _ _ | (refine Below.setCell ?_ (by first | (simp; done) | (simp; omega) | omega) _) | (refine Below.alloc ?_ (by first | (simp; done) | (simp; omega) | omega) _) | (refine below_drewN ?_ _) | (refine Below.drew ?_)))) (Nat.le_refl _); have HS0 := Lib.hid (show (((w.alloc (.cells #[.int .i64 m, .slice o t.length c] 32)).alloc (.cells #[.int .i64 m, .slice (some ⟨bx, fx, none⟩) xs.length c1] 34)).alloc (.cells #[.int .i64 0, .slice none 0 0] 32)).heap.size = w.heap.size + 1 + 1 + 1 by simp); generalize ((w.alloc (.cells #[.int .i64 m, .slice o t.length c] 32)).alloc (.cells #[.int .i64 m, .slice (some ⟨bx, fx, none⟩) xs.length c1] 34)).alloc (.cells #[.int .i64 0, .slice none 0 0] 32) = w0 at X0 Y0 R0 B0 hv0 hu0 HS0 ⊢)
      obtain ⟨x0, x1⟩ := id X0
      obtain ⟨y0, y1⟩ := id Y0
      go_wp2_with fail
      have hzb : Below w0.heap.size w0 (w0.alloc (.cells #[.int .i64 m, .slice (some ⟨bx, fx, none⟩) xs.length c1] 34)) := (by (repeat (first | exact Below.refl _ _ | (refine Below.setCell ?_ (by first | (simp; done) | (simp; omega) | omega) _) | (refine Below.alloc ?_ (by first | (simp; done) | (simp; omega) | omega) _) | (refine below_drewN ?_ _) | (refine Below.drew ?_))))
      refine (curved_c m _ _ t [(m, xs)] _ (hv0.below hzb (Nat.le_refl _)) (RdM.lit1c w0 HS0.out m _ xs hu0)).mono ?_
      clear hzb
      rw [HC.out]
      rintro e w1 ⟨rfl, hb⟩
      have hb := (show Below w0.heap.size w0 w1 from (by (repeat (first | exact Below.refl _ _ | (refine Below.setCell ?_ (by first | (simp; done) | (simp; omega) | omega) _) | (refine Below.alloc ?_ (by first | (simp; done) | (simp; omega) | omega) _) | (refine below_drewN ?_ _) | (refine Below.drew ?_) | (refine Below.trans ?_ (Below.mono hb (by first | (simp; done) | (simp; omega) | omega)))))))
      clear x0 x1 y0 y1 HS0
      (have X1 := X0.below hb (Nat.le_refl _); have Y1 := Y0.below hb (Nat.le_refl _); have R1 := R0.below hb (Nat.le_refl _); have hv1 := hv0.below hb (Nat.le_refl _); have hu1 := hu0.below hb (Nat.le_refl _); have B1 := B0.trans (hb.mono B0.size))
      clear hb
      have hco : coB m xs = true := by simp [coB, hun, HZ.out]
      (obtain ⟨gqY0, gqY1⟩ := id Y1; go_wp2_with fail; refine (isCoordinate_c m _ xs _ hu1 (by omega) (by omega) (by omega) hx).mono ?_; rw [hco]; rintro e w2 ⟨rfl, hb⟩; (have X2 := X1.below hb (Nat.le_refl _); have Y2 := Y1.below hb (Nat.le_refl _); have R2 := R1.below hb (Nat.le_refl _); have hv2 := hv1.below hb (Nat.le_refl _); have hu2 := hu1.below hb (Nat.le_refl _); have B2 := B1.trans (hb.mono B1.size)); clear gqY0 gqY1; clear hb)
      (obtain ⟨gqX0, gqX1⟩ := id X2; obtain ⟨gqY0, gqY1⟩ := id Y2; go_wp2_with fail; refine (inCoordinate_c m t.length _ _ t xs _ hv2 hu2 HLX.out (by omega) (by omega) (by omega) (by omega) HT.out hx).mono ?_; rintro e w3 ⟨vR, rfl, how, hb⟩; obtain ⟨oV, cV, rfl⟩ := how.shapeN (n := t.length) (HLT.out); have hz := R2.1.lt; have hB := B2.size; (have R3 := R2.below hb (Nat.le_refl _); have B3 := B2.trans (hb.mono B2.size)); obtain ⟨⟨r0, r1⟩, rf⟩ := id R3; go_wp2; exact bodyPost_ret (v := .tuple #[.agg #[.int .i64 m, .slice oV t.length cV], .int .i64 0]) (by simp [results, Try.results28, go_sem, r0, r1]) rfl ⟨_, rfl, ((how.low hz _).low hz _).mono hB, (by (repeat (first | exact Below.refl _ _ | (refine Below.setCell ?_ (by first | (simp; done) | (simp; omega) | omega) _) | (refine Below.alloc ?_ (by first | (simp; done) | (simp; omega) | omega) _) | (refine below_drewN ?_ _) | (refine Below.drew ?_) | (refine Below.trans ?_ (Below.mono B3 (by first | (simp; done) | (simp; omega) | omega)))))), hlen⟩)
  · have hR : cooR m t m1 xs = PR.bad (curC m t [(m1, xs)]) := by simp [cooR, hc]
    rw [hR]
    clear hR
    obtain ⟨cc, hcc0⟩ : ∃ cc, curC m t [(m1, xs)] = cc := ⟨_, rfl⟩
    rw [hcc0] at hc ⊢
    have HC := Lib.hid hcc0
    clear hcc0
    have hcc : (cc != 0) = true := by simpa using hc
    have hcd : (cc == 0) = false := by simpa using hc
    clear hc
    go_enter Try.func28, Try.ntmps28
    go_wp2_with fail
    (have X0 := ((RB2.mk1 w  (.int .i64 m) (.slice o t.length c) 32).1).below (w' := (((w.alloc (.cells #[.int .i64 m, .slice o t.length c] 32)).alloc (.cells #[.int .i64 m1, .slice o1 xs.length c1] 34)).alloc (.cells #[.int .i64 0, .slice none 0 0] 32))) (by (repeat (first | exact Below.refl _ _ | (refine Below.setCell ?_ (by first | (simp; done) | (simp; omega) | omega) _) | (refine Below.alloc ?_ (by first | (simp; done) | (simp; omega) | omega) _) | (refine below_drewN ?_ _) | (refine Below.drew ?_)))) (Nat.le_refl _); have Y0 := ((RB2.mk2 w (.cells #[.int .i64 m, .slice o t.length c] 32) (.int .i64 m1) (.slice o1 xs.length c1) 34).1).below (w' := (((w.alloc (.cells #[.int .i64 m, .slice o t.length c] 32)).alloc (.cells #[.int .i64 m1, .slice o1 xs.length c1] 34)).alloc (.cells #[.int .i64 0, .slice none 0 0] 32))) (by (repeat (first | exact Below.refl _ _ | (refine Below.setCell ?_ (by first | (simp; done) | (simp; omega) | omega) _) | (refine Below.alloc ?_ (by first | (simp; done) | (simp; omega) | omega) _) | (refine below_drewN ?_ _) | (refine Below.drew ?_)))) (Nat.le_refl _); have R0 := ((RB2.mk3 w (.cells #[.int .i64 m, .slice o t.length c] 32) (.cells #[.int .i64 m1, .slice o1 xs.length c1] 34) (.int .i64 0) (.slice none 0 0) 32)).below (w' := (((w.alloc (.cells #[.int .i64 m, .slice o t.length c] 32)).alloc (.cells #[.int .i64 m1, .slice o1 xs.length c1] 34)).alloc (.cells #[.int .i64 0, .slice none 0 0] 32))) (by (repeat (first | exact Below.refl _ _ | (refine Below.setCell ?_ (by first | (simp; done) | (simp; omega) | omega) _) | (refine Below.alloc ?_ (by first | (simp; done) | (simp; omega) | omega) _) | (refine below_drewN ?_ _) | (refine Below.drew ?_)))) (Nat.le_refl _); have B0 : Below w.heap.size w (((w.alloc (.cells #[.int .i64 m, .slice o t.length c] 32)).alloc (.cells #[.int .i64 m1, .slice o1 xs.length c1] 34)).alloc (.cells #[.int .i64 0, .slice none 0 0] 32)) := (by (repeat (first | exact Below.refl _ _ | (refine Below.setCell ?_ (by first | (simp; done) | (simp; omega) | omega) _) | (refine Below.alloc ?_ (by first | (simp; done) | (simp; omega) | omega) _) | (refine below_drewN ?_ _) | (refine Below.drew ?_)))); have hv0 := hv.below (w' := (((w.alloc (.cells #[.int .i64 m, .slice o t.length c] 32)).alloc (.cells #[.int .i64 m1, .slice o1 xs.length c1] 34)).alloc (.cells #[.int .i64 0, .slice none 0 0] 32))) (by (repeat (first | exact Below.refl _ _ | (refine Below.setCell ?_ (by first | (simp; done) | (simp; omega) | omega) _) | (refine Below.alloc ?_ (by first | (simp; done) | (simp; omega) | omega) _) | (refine below_drewN ?_ _) | (refine Below.drew ?_)))) (Nat.le_refl _); have hu0 := hu.below (w' := (((w.alloc (.cells #[.int .i64 m, .slice o t.length c] 32)).alloc (.cells #[.int .i64 m1, .slice o1 xs.length c1] 34)).alloc (.cells #[.int .i64 0, .slice none 0 0] 32))) (by (repeat (first | exact Below.refl _ _ | (refine Below.setCell ?_ (by first | (simp; done) | (simp; omega) | omega) _) | (refine Below.alloc ?_ (by first | (simp; done) | (simp; omega) | omega) _) | (refine below_drewN ?_ _) | (refine Below.drew ?_)))) (Nat.le_refl _); have HS0 := Lib.hid (show (((w.alloc (.cells #[.int .i64 m, .slice o t.length c] 32)).alloc (.cells #[.int .i64 m1, .slice o1 xs.length c1] 34)).alloc (.cells #[.int .i64 0, .slice none 0 0] 32)).heap.size = w.heap.size + 1 + 1 + 1 by simp); generalize ((w.alloc (.cells #[.int .i64 m, .slice o t.length c] 32)).alloc (.cells #[.int .i64 m1, .slice o1 xs.length c1] 34)).alloc (.cells #[.int .i64 0, .slice none 0 0] 32) = w0 at X0 Y0 R0 B0 hv0 hu0 HS0 ⊢)
    obtain ⟨x0, x1⟩ := id X0
    obtain ⟨y0, y1⟩ := id Y0
    go_wp2_with fail
    have hzb : Below w0.heap.size w0 (w0.alloc (.cells #[.int .i64 m1, .slice o1 xs.length c1] 34)) := (by (repeat (first | exact Below.refl _ _ | (refine Below.setCell ?_ (by first | (simp; done) | (simp; omega) | omega) _) | (refine Below.alloc ?_ (by first | (simp; done) | (simp; omega) | omega) _) | (refine below_drewN ?_ _) | (refine Below.drew ?_))))
    refine (curved_c m _ _ t [(m1, xs)] _ (hv0.below hzb (Nat.le_refl _)) (RdM.lit1c w0 HS0.out m1 _ xs hu0)).mono ?_
    clear hzb
    rw [HC.out]
    rintro e w1 ⟨rfl, hb⟩
    have hb := (show Below w0.heap.size w0 w1 from (by (repeat (first | exact Below.refl _ _ | (refine Below.setCell ?_ (by first | (simp; done) | (simp; omega) | omega) _) | (refine Below.alloc ?_ (by first | (simp; done) | (simp; omega) | omega) _) | (refine below_drewN ?_ _) | (refine Below.drew ?_) | (refine Below.trans ?_ (Below.mono hb (by first | (simp; done) | (simp; omega) | omega)))))))
    clear x0 x1 y0 y1 HS0
    (have R1 := R0.below hb (Nat.le_refl _); have B1 := B0.trans (hb.mono B0.size))
    clear hb
    (obtain ⟨⟨r0, r1⟩, rf⟩ := id R1; go_wp2; exact bodyPost_ret (v := .tuple #[.agg #[.int .i64 0, .slice none 0 0], .int .i64 cc]) (by simp [results, Try.results28, go_sem, r0, r1]) rfl ⟨_, rfl, OwS.nil _ _, (by (repeat (first | exact Below.refl _ _ | (refine Below.setCell ?_ (by first | (simp; done) | (simp; omega) | omega) _) | (refine Below.alloc ?_ (by first | (simp; done) | (simp; omega) | omega) _) | (refine below_drewN ?_ _) | (refine Below.drew ?_) | (refine Below.trans ?_ (Below.mono B1 (by first | (simp; done) | (simp; omega) | omega)))))), by simp [PR.bad, sizeT, numT]⟩)

set_option maxHeartbeats 4000000 in
set_option maxRecDepth 100000 in
theorem sLawInCoordinate_c (m : Int) (v : Value) (t : List (List Int)) (m1 : Int) (u : Value) (xs : List Int) (w : World) (hv : RdT w v t) (hu : RdI w u xs) :
    Calls Try.prog 27 #[.agg #[.int .i64 m, v], .agg #[.int .i64 m1, u]] w fun e w' => PEnd w w' (cooR m t m1 xs) e := by
  obtain ⟨o, c, rfl, -, -⟩ := id hv
  obtain ⟨o1, c1, rfl, hmu, -⟩ := id hu
  by_cases hc : curC m t [(m1, xs)] = 0
  · obtain ⟨a1, a2⟩ := curC_0 hc
    obtain ⟨s1, e1, l1, z1⟩ := a2 (m1, xs) (by simp)
    replace s1 : serB m1 xs = true := s1
    replace l1 : xs.length = t.length := l1
    replace e1 : m = m1 := e1.symm
    replace z1 : at0 xs 0 = 0 := z1
    subst e1
    have hp := (lawB_t a1).1
    have hn := pla_n hp
    have hm := pla_m hp
    have hx := ser_x s1
    have HC := Lib.hid hc
    have HT := Lib.hid (show PlaT m t.length t from ⟨rfl, pla_row hp⟩)
    have HLX := Lib.hid l1
    have HZ := Lib.hid z1
    have hcc : ((0 : Int) != 0) = false := by simp
    have hcd : ((0 : Int) == 0) = true := by simp
    have hnx := ser_n s1
    clear a1 a2 hp s1
    unfold maxLen at hmu
    obtain ⟨bx, fx, rfl, hcx⟩ := hu.cells (by omega)
    have c1x : w.cell? ⟨bx, fx + 1, none⟩ = some (.int .i64 (at0 xs 1)) := hcx 1 _ (some_at0 (by omega))
    have hr1 := at0_range (by omega) hx 1
    have i1 : (1 : Int) < (xs.length : Int) := by omega
    have i3 : 1 < xs.length := by omega
    have lc1 := cell_lt c1x
    clear hcx l1
    cases hun : unitB m (at0 xs 1)
    · have hR : cooR m t m xs = PR.bad 5 := by simp [cooR, hc, hun]
      rw [hR]
      clear hR hc z1
      go_enter Try.func27, Try.ntmps27
      go_wp2_with fail
      (have X0 := ((RB2.mk1 w  (.int .i64 m) (.slice o t.length c) 32).1).below (w' := (((w.alloc (.cells #[.int .i64 m, .slice o t.length c] 32)).alloc (.cells #[.int .i64 m, .slice (some ⟨bx, fx, none⟩) xs.length c1] 34)).alloc (.cells #[.int .i64 0, .slice none 0 0] 32))) (by (repeat (first | exact Below.refl _ _ | (refine Below.setCell ?_ (by first | (simp; done) | (simp; omega) | omega) _) | (refine Below.alloc ?_ (by first | (simp; done) | (simp; omega) | omega) _) | (refine below_drewN ?_ _) | (refine Below.drew ?_)))) (Nat.le_refl _); have Y0 := ((RB2.mk2 w (.cells #[.int .i64 m, .slice o t.length c] 32) (.int .i64 m) (.slice (some ⟨bx, fx, none⟩) xs.length c1) 34).1).below (w' := (((w.alloc (.cells #[.int .i64 m, .slice o t.length c] 32)).alloc (.cells #[.int .i64 m, .slice (some ⟨bx, fx, none⟩) xs.length c1] 34)).alloc (.cells #[.int .i64 0, .slice none 0 0] 32))) (by (repeat (first | exact Below.refl _ _ | (refine Below.setCell ?_ (by first | (simp; done) | (simp; omega) | omega) _) | (refine Below.alloc ?_ (by first | (simp; done) | (simp; omega) | omega) _) | (refine below_drewN ?_ _) | (refine Below.drew ?_)))) (Nat.le_refl _); have R0 := ((RB2.mk3 w (.cells #[.int .i64 m, .slice o t.length c] 32) (.cells #[.int .i64 m, .slice (some ⟨bx, fx, none⟩) xs.length c1] 34) (.int .i64 0) (.slice none 0 0) 32)).below (w' := (((w.alloc (.cells #[.int .i64 m, .slice o t.length c] 32)).alloc (.cells #[.int .i64 m, .slice (some ⟨bx, fx, none⟩) xs.length c1] 34)).alloc (.cells #[.int .i64 0, .slice none 0 0] 32))) (by (repeat (first | exact Below.refl _ _ | (refine Below.setCell ?_ (by first | (simp; done) | (simp; omega) | omega) _) | (refine Below.alloc ?_ (by first | (simp; done) | (simp; omega) | omega) _) | (refine below_drewN ?_ _) | (refine Below.drew ?_)))) (Nat.le_refl _); have B0 : Below w.heap.size w (((w.alloc (.cells #[.int .i64 m, .slice o t.length c] 32)).alloc (.cells #[.int .i64 m, .slice (some ⟨bx, fx, none⟩) xs.length c1] 34)).alloc (.cells #[.int .i64 0, .slice none 0 0] 32)) := (by (repeat (first | exact Below.refl _ _ | (refine Below.setCell ?_ (by first | (simp; done) | (simp; omega) | omega) _) | (refine Below.alloc ?_ (by first | (simp; done) | (simp; omega) | omega) _) | (refine below_drewN ?_ _) | (refine Below.drew ?_)))); have hv0 := hv.below (w' := (((w.alloc (.cells #[.int .i64 m, .slice o t.length c] 32)).alloc (.cells #[.int .i64 m, .slice (some ⟨bx, fx, none⟩) xs.length c1] 34)).alloc (.cells #[.int .i64 0, .slice none 0 0] 32))) (by (repeat (first | exact Below.refl _ _ | (refine Below.setCell ?_ (by first | (simp; done) | (simp; omega) | omega) _) | (refine Below.alloc ?_ (by first | (simp; done) | (simp; omega) | omega) _) | (refine below_drewN ?_ _) | (refine Below.drew ?_)))) (Nat.le_refl _); have hu0 := hu.below (w' := (((w.alloc (.cells #[.int .i64 m, .slice o t.length c] 32)).alloc (.cells #[.int .i64 m, .slice (some ⟨bx, fx, none⟩) xs.length c1] 34)).alloc (.cells #[.int .i64 0, .slice none 0 0] 32))) (by (repeat (first | exact Below.refl _ _ | (refine Below.setCell ?_ (by first | (simp; done) | (simp; omega) | omega) _) | (refine Below.alloc ?_ (by first | (simp; done) | (simp; omega) | omega) _) | (refine below_drewN ?_ _) | (refine Below.drew ?_)))) (Nat.le_refl _); have HS0 := Lib.hid (show (((w.alloc (.cells #[.int .i64 m, .slice o t.length c] 32)).alloc (.cells #[.int .i64 m, .slice (some ⟨bx, fx, none⟩) xs.length c1] 34)).alloc (.cells #[.int .i64 0, .slice none 0 0] 32)).heap.size = w.heap.size + 1 + 1 + 1 by simp); generalize ((w.alloc (.cells #[.int .i64 m, .slice o t.length c] 32)).alloc (.cells #[.int .i64 m, .slice (some ⟨bx, fx, none⟩) xs.length c1] 34)).alloc (.cells #[.int .i64 0, .slice none 0 0] 32) = w0 at X0 Y0 R0 B0 hv0 hu0 HS0 ⊢)
      obtain ⟨x0, x1⟩ := id X0
      obtain ⟨y0, y1⟩ := id Y0
      go_wp2_with fail
      have hzb : Below w0.heap.size w0 (w0.alloc (.cells #[.int .i64 m, .slice (some ⟨bx, fx, none⟩) xs.length c1] 34)) := (by (repeat (first | exact Below.refl _ _ | (refine Below.setCell ?_ (by first | (simp; done) | (simp; omega) | omega) _) | (refine Below.alloc ?_ (by first | (simp; done) | (simp; omega) | omega) _) | (refine below_drewN ?_ _) | (refine Below.drew ?_))))
      refine (l04Code_c m _ _ t [(m, xs)] _ (hv0.below hzb (Nat.le_refl _)) (RdM.lit1c w0 HS0.out m _ xs hu0)).mono ?_
      clear hzb
      rw [HC.out]
      rintro e w1 ⟨rfl, hb⟩
      have hb := (show Below w0.heap.size w0 w1 from (by (repeat (first | exact Below.refl _ _ | (refine Below.setCell ?_ (by first | (simp; done) | (simp; omega) | omega) _) | (refine Below.alloc ?_ (by first | (simp; done) | (simp; omega) | omega) _) | (refine below_drewN ?_ _) | (refine Below.drew ?_) | (refine Below.trans ?_ (Below.mono hb (by first | (simp; done) | (simp; omega) | omega)))))))
      clear x0 x1 y0 y1 HS0
      (have X1 := X0.below hb (Nat.le_refl _); have Y1 := Y0.below hb (Nat.le_refl _); have R1 := R0.below hb (Nat.le_refl _); have hv1 := hv0.below hb (Nat.le_refl _); have hu1 := hu0.below hb (Nat.le_refl _); have B1 := B0.trans (hb.mono B0.size))
      clear hb
      have c11 := keep_cell B1 (Nat.le_refl _) c1x
      have B1s := B1.size
      go_wp2_with fail
      have hd0 : Below w1.heap.size w1 w1.drew := (Below.refl _ _).drew
      have hsd0 := hd0.size
      obtain ⟨f0_a, f0_b⟩ := ((X1).below (Below.refl w1.heap.size w1) (Nat.le_refl _))
      obtain ⟨f0_c, f0_d⟩ := ((Y1).below (Below.refl w1.heap.size w1) (Nat.le_refl _))
      have f0_e := keep_cell hd0 (Nat.le_refl _) c11
      refine wp_region_K (S := fun w' => w'.cell? ⟨w.heap.size, 0, none⟩ = some (.int .i64 m) ∧ w'.cell? ⟨w.heap.size, 1, none⟩ = some (.slice o t.length c) ∧ w'.cell? ⟨w.heap.size + 1, 0, none⟩ = some (.int .i64 m) ∧ w'.cell? ⟨w.heap.size + 1, 1, none⟩ = some (.slice (some ⟨bx, fx, none⟩) xs.length c1) ∧ w'.cell? ⟨bx, fx + 1, none⟩ = some (.int .i64 (at0 xs 1))) [] (by kernel_rfl) ?_
      have hHeld : (fun w' : World => w'.cell? ⟨w.heap.size, 0, none⟩ = some (.int .i64 m) ∧ w'.cell? ⟨w.heap.size, 1, none⟩ = some (.slice o t.length c) ∧ w'.cell? ⟨w.heap.size + 1, 0, none⟩ = some (.int .i64 m) ∧ w'.cell? ⟨w.heap.size + 1, 1, none⟩ = some (.slice (some ⟨bx, fx, none⟩) xs.length c1) ∧ w'.cell? ⟨bx, fx + 1, none⟩ = some (.int .i64 (at0 xs 1))) w1.drew := by go_keep
      refine' wpAnyK_takeL (i := 0) (v := _) rfl (by kernel_rfl) (by kernel_rfl) (by kernel_rfl) (by kernel_rfl) (fun _ _ _ h => h) (Or.inl ⟨by rfl, ?yT1⟩) hHeld ?rT1
      case yT1 => (intro w' hSw; (try dsimp only at hSw); go_simp; try with_reducible rfl)
      try simp only [List.getElem_toArray, List.getElem_cons_zero, List.getElem_cons_succ, Act.put, List.setIfInBounds_toArray, List.set_cons_zero, List.set_cons_succ]
      refine' wpAnyK_takeL (i := 1) (v := _) rfl (by kernel_rfl) (by kernel_rfl) (by kernel_rfl) (by kernel_rfl) (fun _ _ _ h => h) (Or.inl ⟨by rfl, ?yT2⟩) hHeld ?rT2
      case yT2 => (intro w' hSw; (try dsimp only at hSw); go_simp; try with_reducible rfl)
      try simp only [List.getElem_toArray, List.getElem_cons_zero, List.getElem_cons_succ, Act.put, List.setIfInBounds_toArray, List.set_cons_zero, List.set_cons_succ]
      refine' wpAnyK_takeL (i := 2) (v := _) rfl (by kernel_rfl) (by kernel_rfl) (by kernel_rfl) (by kernel_rfl) (fun _ _ _ h => h) (Or.inl ⟨by rfl, ?yT3⟩) hHeld ?rT3
      case yT3 => (intro w' hSw; (try dsimp only at hSw); go_simp; try with_reducible rfl)
      try simp only [List.getElem_toArray, List.getElem_cons_zero, List.getElem_cons_succ, Act.put, List.setIfInBounds_toArray, List.set_cons_zero, List.set_cons_succ]
      refine' wpAnyK_takeL (i := 3) (v := _) rfl (by kernel_rfl) (by kernel_rfl) (by kernel_rfl) (by kernel_rfl) (fun _ _ _ h => h) (Or.inl ⟨by rfl, ?yT4⟩) hHeld ?rT4
      case yT4 => (intro w' hSw; (try dsimp only at hSw); go_simp; try with_reducible rfl)
      try simp only [List.getElem_toArray, List.getElem_cons_zero, List.getElem_cons_succ, Act.put, List.setIfInBounds_toArray, List.set_cons_zero, List.set_cons_succ]
      refine' wpAnyK_takeL (i := 4) (v := _) rfl (by kernel_rfl) (by kernel_rfl) (by kernel_rfl) (by kernel_rfl) (fun _ _ _ h => h) (Or.inl ⟨by rfl, ?yT5⟩) hHeld ?rT5
      case yT5 => (intro w' hSw; (try dsimp only at hSw); go_simp; try with_reducible rfl)
      try simp only [List.getElem_toArray, List.getElem_cons_zero, List.getElem_cons_succ, Act.put, List.setIfInBounds_toArray, List.set_cons_zero, List.set_cons_succ]
      refine' wpAnyK_takeL (i := 5) (v := _) rfl (by kernel_rfl) (by kernel_rfl) (by kernel_rfl) (by kernel_rfl) (fun _ _ _ h => h) (Or.inl ⟨by rfl, ?yT6⟩) hHeld ?rT6
      case yT6 => (intro w' hSw; (try dsimp only at hSw); go_simp; try with_reducible rfl)
      try simp only [List.getElem_toArray, List.getElem_cons_zero, List.getElem_cons_succ, Act.put, List.setIfInBounds_toArray, List.set_cons_zero, List.set_cons_succ]
      refine' wpAnyK_takeL (i := 6) (v := _) rfl (by kernel_rfl) (by kernel_rfl) (by kernel_rfl) (by kernel_rfl) (fun _ _ _ h => h) (Or.inl ⟨by rfl, ?yT7⟩) hHeld ?rT7
      case yT7 => (intro w' hSw; (try dsimp only at hSw); go_simp; try with_reducible rfl)
      try simp only [List.getElem_toArray, List.getElem_cons_zero, List.getElem_cons_succ, Act.put, List.setIfInBounds_toArray, List.set_cons_zero, List.set_cons_succ]
      refine' wpAnyK_takeL (i := 7) (v := _) rfl (by kernel_rfl) (by kernel_rfl) (by kernel_rfl) (by kernel_rfl) (fun _ _ _ h => h) (Or.inl ⟨by rfl, ?yT8⟩) hHeld ?rT8
      case yT8 => (intro w' hSw; (try dsimp only at hSw); go_simp; try with_reducible rfl)
      try simp only [List.getElem_toArray, List.getElem_cons_zero, List.getElem_cons_succ, Act.put, List.setIfInBounds_toArray, List.set_cons_zero, List.set_cons_succ]
      refine' wpAnyK_takeL (i := 8) (v := _) rfl (by kernel_rfl) (by kernel_rfl) (by kernel_rfl) (by kernel_rfl) (fun _ _ _ h => h) (Or.inl ⟨by rfl, ?yT9⟩) hHeld ?rT9
      case yT9 => (intro w' hSw; (try dsimp only at hSw); go_simp; try with_reducible rfl)
      try simp only [List.getElem_toArray, List.getElem_cons_zero, List.getElem_cons_succ, Act.put, List.setIfInBounds_toArray, List.set_cons_zero, List.set_cons_succ]
      refine wpAnyK_oneL (i := 9) rfl (by kernel_rfl) (fun K hK => ?_)
      go_simp
      go_at_call 84
      refine ((l01Unit_c m (at0 xs 1) _ (by omega) (by omega) (by omega) (by omega)).mono (fun e w' h => by rw [hun] at h; exact h)).mono ?_
      rintro e w' ⟨rfl, rfl⟩
      go_wp2_with fail
      refine hK.out _ _ (fun _ => hHeld) ?_
      clear hK K
      try simp only [List.getElem_toArray, List.getElem_cons_zero, List.getElem_cons_succ, Act.put, List.setIfInBounds_toArray, List.set_cons_zero, List.set_cons_succ]
      refine wpAnyK_oneL (i := 10) rfl (by kernel_rfl) (fun K hK => ?_)
      go_simp
      (try go_wp2_with fail)
      refine hK.out _ _ (fun _ => hHeld) ?_
      clear hK K
      try simp only [List.getElem_toArray, List.getElem_cons_zero, List.getElem_cons_succ, Act.put, List.setIfInBounds_toArray, List.set_cons_zero, List.set_cons_succ]
      refine wpAnyK_oneL (i := 11) rfl (by kernel_rfl) (fun K hK => ?_)
      go_simp
      (try go_wp2_with fail)
      refine hK.out _ _ (fun _ => hHeld) ?_
      clear hK K
      try simp only [List.getElem_toArray, List.getElem_cons_zero, List.getElem_cons_succ, Act.put, List.setIfInBounds_toArray, List.set_cons_zero, List.set_cons_succ]
      refine wpAnyK_done (by kernel_rfl) ?_ _
      have R2 := R1.below hd0 (Nat.le_refl _)
      have B2 := B1.trans (hd0.mono B1s)
      generalize w1.drew = w2 at R2 B2 ⊢
      (obtain ⟨⟨r0, r1⟩, rf⟩ := id R2; go_wp2; exact bodyPost_ret (v := .tuple #[.agg #[.int .i64 0, .slice none 0 0], .int .i64 5]) (by simp [results, Try.results27, go_sem, r0, r1]) rfl ⟨_, rfl, OwS.nil _ _, (by (repeat (first | exact Below.refl _ _ | (refine Below.setCell ?_ (by first | (simp; done) | (simp; omega) | omega) _) | (refine Below.alloc ?_ (by first | (simp; done) | (simp; omega) | omega) _) | (refine below_drewN ?_ _) | (refine Below.drew ?_) | (refine Below.trans ?_ (Below.mono B2 (by first | (simp; done) | (simp; omega) | omega)))))), by simp [PR.bad, sizeT, numT]⟩)
    · have hR : cooR m t m xs = ⟨m, cooT m t.length t xs, 0⟩ := by simp [cooR, hc, hun]
      rw [hR]
      have HLT := Lib.hid (cooT_len m t.length t xs)
      have hlen := cooT_size (m := m) (show t.length ≤ 1000 by omega) t xs
      clear hR hc
      have hz1 := z1
      clear z1
      go_enter Try.func27, Try.ntmps27
      go_wp2_with fail
      (have X0 := ((RB2.mk1 w  (.int .i64 m) (.slice o t.length c) 32).1).below (w' := (((w.alloc (.cells #[.int .i64 m, .slice o t.length c] 32)).alloc (.cells #[.int .i64 m, .slice (some ⟨bx, fx, none⟩) xs.length c1] 34)).alloc (.cells #[.int .i64 0, .slice none 0 0] 32))) (by (repeat (first | exact Below.refl _ _ | (refine Below.setCell ?_ (by first | (simp; done) | (simp; omega) | omega) _) | (refine Below.alloc ?_ (by first | (simp; done) | (simp; omega) | omega) _) | (refine below_drewN ?_ _) | (refine Below.drew ?_)))) (Nat.le_refl _); have Y0 := ((RB2.mk2 w (.cells #[.int .i64 m, .slice o t.length c] 32) (.int .i64 m) (.slice (some ⟨bx, fx, none⟩) xs.length c1) 34).1).below (w' := (((w.alloc (.cells #[.int .i64 m, .slice o t.length c] 32)).alloc (.cells #[.int .i64 m, .slice (some ⟨bx, fx, none⟩) xs.length c1] 34)).alloc (.cells #[.int .i64 0, .slice none 0 0] 32))) (by (repeat (first | exact Below.refl _ _ | (refine Below.setCell ?_ (by first | (simp; done) | (simp; omega) | omega) _) | (refine Below.alloc ?_ (by first | (simp; done) | (simp; omega) | omega) _) | (refine below_drewN ?_ _) | (refine Below.drew ?_)))) (Nat.le_refl _); have R0 := ((RB2.mk3 w (.cells #[.int .i64 m, .slice o t.length c] 32) (.cells #[.int .i64 m, .slice (some ⟨bx, fx, none⟩) xs.length c1] 34) (.int .i64 0) (.slice none 0 0) 32)).below (w' := (((w.alloc (.cells #[.int .i64 m, .slice o t.length c] 32)).alloc (.cells #[.int .i64 m, .slice (some ⟨bx, fx, none⟩) xs.length c1] 34)).alloc (.cells #[.int .i64 0, .slice none 0 0] 32))) (by (repeat (first | exact Below.refl _ _ | (refine Below.setCell ?_ (by first | (simp; done) | (simp; omega) | omega) _) | (refine Below.alloc ?_ (by first | (simp; done) | (simp; omega) | omega) _) | (refine below_drewN ?_ _) | (refine Below.drew ?_)))) (Nat.le_refl _); have B0 : Below w.heap.size w (((w.alloc (.cells #[.int .i64 m, .slice o t.length c] 32)).alloc (.cells #[.int .i64 m, .slice (some ⟨bx, fx, none⟩) xs.length c1] 34)).alloc (.cells #[.int .i64 0, .slice none 0 0] 32)) := (by (repeat (first | exact Below.refl _ _ | (refine Below.setCell ?_ (by first | (simp; done) | (simp; omega) | omega) _) | (refine Below.alloc ?_ (by first | (simp; done) | (simp; omega) | omega) _) | (refine below_drewN ?_ _) | (refine Below.drew ?_)))); have hv0 := hv.below (w' := (((w.alloc (.cells #[.int .i64 m, .slice o t.length c] 32)).alloc (.cells #[.int .i64 m, .slice (some ⟨bx, fx, none⟩) xs.length c1] 34)).alloc (.cells #[.int .i64 0, .slice none 0 0] 32))) (by (repeat (first | exact Below.refl _ _ | (refine Below.setCell ?_ (by first | (simp; done) | (simp; omega) | omega) _) | (refine Below.alloc ?_ (by first | (simp; done) | (simp; omega) | omega) _) | (refine below_drewN ?_ _) | (refine Below.drew ?_)))) (Nat.le_refl _); have hu0 := hu.below (w' := (((w.alloc (.cells #[.int .i64 m, .slice o t.length c] 32)).alloc (.cells #[.int .i64 m, .slice (some ⟨bx, fx, none⟩) xs.length c1] 34)).alloc (.cells #[.int .i64 0, .slice none 0 0] 32))) (by (repeat (first | exact Below.refl _ _ | (refine Below.setCell ?_ (by first | (simp; done) | (simp; omega) | omega) _) | (refine Below.alloc ?_ (by first | (simp; done) | (simp; omega) | omega) _) | (refine below_drewN ?_ _) | (refine Below.drew ?_)))) (Nat.le_refl _); have HS0 := Lib.hid (show (((w.alloc (.cells #[.int .i64 m, .slice o t.length c] 32)).alloc (.cells #[.int .i64 m, .slice (some ⟨bx, fx, none⟩) xs.length c1] 34)).alloc (.cells #[.int .i64 0, .slice none 0 0] 32)).heap.size = w.heap.size + 1 + 1 + 1 by simp); generalize ((w.alloc (.cells #[.int .i64 m, .slice o t.length c] 32)).alloc (.cells #[.int .i64 m, .slice (some ⟨bx, fx, none⟩) xs.length c1] 34)).alloc (.cells #[.int .i64 0, .slice none 0 0] 32) = w0 at X0 Y0 R0 B0 hv0 hu0 HS0 ⊢)
      obtain ⟨x0, x1⟩ := id X0
      obtain ⟨y0, y1⟩ := id Y0
      go_wp2_with fail
      have hzb : Below w0.heap.size w0 (w0.alloc (.cells #[.int .i64 m, .slice (some ⟨bx, fx, none⟩) xs.length c1] 34)) := (by (repeat (first | exact Below.refl _ _ | (refine Below.setCell ?_ (by first | (simp; done) | (simp; omega) | omega) _) | (refine Below.alloc ?_ (by first | (simp; done) | (simp; omega) | omega) _) | (refine below_drewN ?_ _) | (refine Below.drew ?_))))
      refine (l04Code_c m _ _ t [(m, xs)] _ (hv0.below hzb (Nat.le_refl _)) (RdM.lit1c w0 HS0.out m _ xs hu0)).mono ?_
      clear hzb
      rw [HC.out]
      rintro e w1 ⟨rfl, hb⟩
      have hb := (show Below w0.heap.size w0 w1 from (by (repeat (first | exact Below.refl _ _ | (refine Below.setCell ?_ (by first | (simp; done) | (simp; omega) | omega) _) | (refine Below.alloc ?_ (by first | (simp; done) | (simp; omega) | omega) _) | (refine below_drewN ?_ _) | (refine Below.drew ?_) | (refine Below.trans ?_ (Below.mono hb (by first | (simp; done) | (simp; omega) | omega)))))))
      clear x0 x1 y0 y1 HS0
      (have X1 := X0.below hb (Nat.le_refl _); have Y1 := Y0.below hb (Nat.le_refl _); have R1 := R0.below hb (Nat.le_refl _); have hv1 := hv0.below hb (Nat.le_refl _); have hu1 := hu0.below hb (Nat.le_refl _); have B1 := B0.trans (hb.mono B0.size))
      clear hb
      have c11 := keep_cell B1 (Nat.le_refl _) c1x
      have B1s := B1.size
      go_wp2_with fail
      have hd0 : Below w1.heap.size w1 w1.drew := (Below.refl _ _).drew
      have hsd0 := hd0.size
      obtain ⟨f0_a, f0_b⟩ := ((X1).below (Below.refl w1.heap.size w1) (Nat.le_refl _))
      obtain ⟨f0_c, f0_d⟩ := ((Y1).below (Below.refl w1.heap.size w1) (Nat.le_refl _))
      have f0_e := keep_cell hd0 (Nat.le_refl _) c11
      refine wp_region_K (S := fun w' => w'.cell? ⟨w.heap.size, 0, none⟩ = some (.int .i64 m) ∧ w'.cell? ⟨w.heap.size, 1, none⟩ = some (.slice o t.length c) ∧ w'.cell? ⟨w.heap.size + 1, 0, none⟩ = some (.int .i64 m) ∧ w'.cell? ⟨w.heap.size + 1, 1, none⟩ = some (.slice (some ⟨bx, fx, none⟩) xs.length c1) ∧ w'.cell? ⟨bx, fx + 1, none⟩ = some (.int .i64 (at0 xs 1))) [] (by kernel_rfl) ?_
      have hHeld : (fun w' : World => w'.cell? ⟨w.heap.size, 0, none⟩ = some (.int .i64 m) ∧ w'.cell? ⟨w.heap.size, 1, none⟩ = some (.slice o t.length c) ∧ w'.cell? ⟨w.heap.size + 1, 0, none⟩ = some (.int .i64 m) ∧ w'.cell? ⟨w.heap.size + 1, 1, none⟩ = some (.slice (some ⟨bx, fx, none⟩) xs.length c1) ∧ w'.cell? ⟨bx, fx + 1, none⟩ = some (.int .i64 (at0 xs 1))) w1.drew := by go_keep
      refine' wpAnyK_takeL (i := 0) (v := _) rfl (by kernel_rfl) (by kernel_rfl) (by kernel_rfl) (by kernel_rfl) (fun _ _ _ h => h) (Or.inl ⟨by rfl, ?yT10⟩) hHeld ?rT10
      case yT10 => (intro w' hSw; (try dsimp only at hSw); go_simp; try with_reducible rfl)
      try simp only [List.getElem_toArray, List.getElem_cons_zero, List.getElem_cons_succ, Act.put, List.setIfInBounds_toArray, List.set_cons_zero, List.set_cons_succ]
      refine' wpAnyK_takeL (i := 1) (v := _) rfl (by kernel_rfl) (by kernel_rfl) (by kernel_rfl) (by kernel_rfl) (fun _ _ _ h => h) (Or.inl ⟨by rfl, ?yT11⟩) hHeld ?rT11
      case yT11 => (intro w' hSw; (try dsimp only at hSw); go_simp; try with_reducible rfl)
      try simp only [List.getElem_toArray, List.getElem_cons_zero, List.getElem_cons_succ, Act.put, List.setIfInBounds_toArray, List.set_cons_zero, List.set_cons_succ]
      refine' wpAnyK_takeL (i := 2) (v := _) rfl (by kernel_rfl) (by kernel_rfl) (by kernel_rfl) (by kernel_rfl) (fun _ _ _ h => h) (Or.inl ⟨by rfl, ?yT12⟩) hHeld ?rT12
      case yT12 => (intro w' hSw; (try dsimp only at hSw); go_simp; try with_reducible rfl)
      try simp only [List.getElem_toArray, List.getElem_cons_zero, List.getElem_cons_succ, Act.put, List.setIfInBounds_toArray, List.set_cons_zero, List.set_cons_succ]
      refine' wpAnyK_takeL (i := 3) (v := _) rfl (by kernel_rfl) (by kernel_rfl) (by kernel_rfl) (by kernel_rfl) (fun _ _ _ h => h) (Or.inl ⟨by rfl, ?yT13⟩) hHeld ?rT13
      case yT13 => (intro w' hSw; (try dsimp only at hSw); go_simp; try with_reducible rfl)
      try simp only [List.getElem_toArray, List.getElem_cons_zero, List.getElem_cons_succ, Act.put, List.setIfInBounds_toArray, List.set_cons_zero, List.set_cons_succ]
      refine' wpAnyK_takeL (i := 4) (v := _) rfl (by kernel_rfl) (by kernel_rfl) (by kernel_rfl) (by kernel_rfl) (fun _ _ _ h => h) (Or.inl ⟨by rfl, ?yT14⟩) hHeld ?rT14
      case yT14 => (intro w' hSw; (try dsimp only at hSw); go_simp; try with_reducible rfl)
      try simp only [List.getElem_toArray, List.getElem_cons_zero, List.getElem_cons_succ, Act.put, List.setIfInBounds_toArray, List.set_cons_zero, List.set_cons_succ]
      refine' wpAnyK_takeL (i := 5) (v := _) rfl (by kernel_rfl) (by kernel_rfl) (by kernel_rfl) (by kernel_rfl) (fun _ _ _ h => h) (Or.inl ⟨by rfl, ?yT15⟩) hHeld ?rT15
      case yT15 => (intro w' hSw; (try dsimp only at hSw); go_simp; try with_reducible rfl)
      try simp only [List.getElem_toArray, List.getElem_cons_zero, List.getElem_cons_succ, Act.put, List.setIfInBounds_toArray, List.set_cons_zero, List.set_cons_succ]
      refine' wpAnyK_takeL (i := 6) (v := _) rfl (by kernel_rfl) (by kernel_rfl) (by kernel_rfl) (by kernel_rfl) (fun _ _ _ h => h) (Or.inl ⟨by rfl, ?yT16⟩) hHeld ?rT16
      case yT16 => (intro w' hSw; (try dsimp only at hSw); go_simp; try with_reducible rfl)
      try simp only [List.getElem_toArray, List.getElem_cons_zero, List.getElem_cons_succ, Act.put, List.setIfInBounds_toArray, List.set_cons_zero, List.set_cons_succ]
      refine' wpAnyK_takeL (i := 7) (v := _) rfl (by kernel_rfl) (by kernel_rfl) (by kernel_rfl) (by kernel_rfl) (fun _ _ _ h => h) (Or.inl ⟨by rfl, ?yT17⟩) hHeld ?rT17
      case yT17 => (intro w' hSw; (try dsimp only at hSw); go_simp; try with_reducible rfl)
      try simp only [List.getElem_toArray, List.getElem_cons_zero, List.getElem_cons_succ, Act.put, List.setIfInBounds_toArray, List.set_cons_zero, List.set_cons_succ]
      refine' wpAnyK_takeL (i := 8) (v := _) rfl (by kernel_rfl) (by kernel_rfl) (by kernel_rfl) (by kernel_rfl) (fun _ _ _ h => h) (Or.inl ⟨by rfl, ?yT18⟩) hHeld ?rT18
      case yT18 => (intro w' hSw; (try dsimp only at hSw); go_simp; try with_reducible rfl)
      try simp only [List.getElem_toArray, List.getElem_cons_zero, List.getElem_cons_succ, Act.put, List.setIfInBounds_toArray, List.set_cons_zero, List.set_cons_succ]
      refine wpAnyK_oneL (i := 9) rfl (by kernel_rfl) (fun K hK => ?_)
      go_simp
      go_at_call 84
      refine ((l01Unit_c m (at0 xs 1) _ (by omega) (by omega) (by omega) (by omega)).mono (fun e w' h => by rw [hun] at h; exact h)).mono ?_
      rintro e w' ⟨rfl, rfl⟩
      go_wp2_with fail
      refine hK.out _ _ (fun _ => hHeld) ?_
      clear hK K
      try simp only [List.getElem_toArray, List.getElem_cons_zero, List.getElem_cons_succ, Act.put, List.setIfInBounds_toArray, List.set_cons_zero, List.set_cons_succ]
      refine wpAnyK_oneL (i := 10) rfl (by kernel_rfl) (fun K hK => ?_)
      go_simp
      (try go_wp2_with fail)
      refine hK.out _ _ (fun _ => hHeld) ?_
      clear hK K
      try simp only [List.getElem_toArray, List.getElem_cons_zero, List.getElem_cons_succ, Act.put, List.setIfInBounds_toArray, List.set_cons_zero, List.set_cons_succ]
      refine wpAnyK_oneL (i := 11) rfl (by kernel_rfl) (fun K hK => ?_)
      go_simp
      (try go_wp2_with fail)
      refine hK.out _ _ (fun _ => hHeld) ?_
      clear hK K
      try simp only [List.getElem_toArray, List.getElem_cons_zero, List.getElem_cons_succ, Act.put, List.setIfInBounds_toArray, List.set_cons_zero, List.set_cons_succ]
      refine wpAnyK_done (by kernel_rfl) ?_ _
      have X2 := X1.below hd0 (Nat.le_refl _)
      have Y2 := Y1.below hd0 (Nat.le_refl _)
      have R2 := R1.below hd0 (Nat.le_refl _)
      have hv2 := hv1.below hd0 (Nat.le_refl _)
      have hu2 := hu1.below hd0 (Nat.le_refl _)
      have B2 := B1.trans (hd0.mono B1s)
      generalize w1.drew = w2 at X2 Y2 R2 hv2 hu2 B2 ⊢
      go_wp2_with fail
      have hd0 : Below w2.heap.size w2 w2.drew := (Below.refl _ _).drew
      have hsd0 := hd0.size
      have hrl := R2.1.lt
      have hneR_X2 : w.heap.size + 2 ≠ w.heap.size := by omega
      have hneR_Y2 : w.heap.size + 2 ≠ w.heap.size + 1 := by omega
      obtain ⟨⟨q0_R_0, q0_R_1⟩, qf0_R⟩ := R2.below (Below.refl w2.heap.size w2) (Nat.le_refl _)
      obtain ⟨q0_X2_0, q0_X2_1⟩ := X2.below (Below.refl w2.heap.size w2) (Nat.le_refl _)
      obtain ⟨q0_Y2_0, q0_Y2_1⟩ := Y2.below (Below.refl w2.heap.size w2) (Nat.le_refl _)
      go_region_held3 (fun w' => w'.cell? ⟨w.heap.size, 0, none⟩ = some (.int .i64 m) ∧ w'.cell? ⟨w.heap.size, 1, none⟩ = some (.slice o t.length c) ∧ w'.cell? ⟨w.heap.size + 1, 0, none⟩ = some (.int .i64 m) ∧ w'.cell? ⟨w.heap.size + 1, 1, none⟩ = some (.slice (some ⟨bx, fx, none⟩) xs.length c1)) (go_keep)
        (first
          | (go_at_call 86; refine (l06Conjugate_c m t.length _ _ t xs _ ((hv2).below (by (repeat (first | exact Below.refl _ _ | (refine Below.setCell ?_ (by first | (simp; done) | (simp; omega) | omega) _) | (refine Below.alloc ?_ (by first | (simp; done) | (simp; omega) | omega) _) | (refine below_drewN ?_ _) | (refine Below.drew ?_)))) (Nat.le_refl _)) ((hu2).below (by (repeat (first | exact Below.refl _ _ | (refine Below.setCell ?_ (by first | (simp; done) | (simp; omega) | omega) _) | (refine Below.alloc ?_ (by first | (simp; done) | (simp; omega) | omega) _) | (refine below_drewN ?_ _) | (refine Below.drew ?_)))) (Nat.le_refl _)) HLX.out (by omega) (by omega) (by omega) (by omega) HT.out hx).mono ?_; rintro e wd1 ⟨va1, rfl, hod1, hbd1⟩; obtain ⟨oa, ca, rfl⟩ := hod1.shapeN (n := t.length) HLT.out; have hd1 : Below w2.heap.size w2 wd1 := (by (repeat (first | exact Below.refl _ _ | (refine Below.setCell ?_ (by first | (simp; done) | (simp; omega) | omega) _) | (refine Below.alloc ?_ (by first | (simp; done) | (simp; omega) | omega) _) | (refine below_drewN ?_ _) | (refine Below.drew ?_) | (refine Below.trans ?_ (Below.mono hbd1 (by first | (simp; done) | (simp; omega) | omega)))))); have hsd1 := hd1.size; have hsz1_ := hbd1.size; (try simp at hsz1_); obtain ⟨⟨q1_R_0, q1_R_1⟩, qf1_R⟩ := R2.below hd1 (Nat.le_refl _); obtain ⟨q1_X2_0, q1_X2_1⟩ := X2.below hd1 (Nat.le_refl _); obtain ⟨q1_Y2_0, q1_Y2_1⟩ := Y2.below hd1 (Nat.le_refl _))
          | (go_at_call 85; refine (l03Make_c m _ _ _ _).mono ?_; rintro e wd2 ⟨rfl, hbd2⟩; have hd2 : Below w2.heap.size w2 wd2 := (by (repeat (first | exact Below.refl _ _ | (refine Below.setCell ?_ (by first | (simp; done) | (simp; omega) | omega) _) | (refine Below.alloc ?_ (by first | (simp; done) | (simp; omega) | omega) _) | (refine below_drewN ?_ _) | (refine Below.drew ?_) | (refine Below.trans ?_ (Below.mono hbd1 (by first | (simp; done) | (simp; omega) | omega))) | (refine Below.trans ?_ (Below.mono hbd2 (by first | (simp; done) | (simp; omega) | omega)))))); have hsd2 := hd2.size; have hsz2_ := hbd2.size; (try simp at hsz2_); obtain ⟨⟨q2_R_0, q2_R_1⟩, qf2_R⟩ := R2.below hd2 (Nat.le_refl _); obtain ⟨q2_X2_0, q2_X2_1⟩ := X2.below hd2 (Nat.le_refl _); obtain ⟨q2_Y2_0, q2_Y2_1⟩ := Y2.below hd2 (Nat.le_refl _)))
      go_wp2
      refine bodyPost_ret (v := .tuple #[.agg #[.int .i64 m, .slice oa t.length ca], .int .i64 0]) (by simp [results, Try.results27, go_sem, q2_R_0, q2_R_1]) rfl ⟨_, rfl, ?_, ?_, hlen⟩
      · have hbsz := B2.size
        exact (((hod1.below (by (repeat (first | exact Below.refl _ _ | (refine Below.setCell ?_ (by first | (simp; done) | (simp; omega) | omega) _) | (refine Below.alloc ?_ (by first | (simp; done) | (simp; omega) | omega) _) | (refine below_drewN ?_ _) | (refine Below.drew ?_) | (refine Below.trans ?_ (Below.mono hbd2 (by first | (simp; done) | (simp; omega) | omega))))))).low (by first | (simp; done) | (simp; omega) | omega) _).low (by first | (simp; done) | (simp; omega) | omega) _).mono (by first | (simp; done) | (simp; omega) | omega)
      · have hbsz := B2.size
        (repeat (first | exact Below.refl _ _ | (refine Below.setCell ?_ (by first | (simp; done) | (simp; omega) | omega) _) | (refine Below.alloc ?_ (by first | (simp; done) | (simp; omega) | omega) _) | (refine below_drewN ?_ _) | (refine Below.drew ?_) | (refine Below.trans ?_ (Below.mono hbd1 (by first | (simp; done) | (simp; omega) | omega))) | (refine Below.trans ?_ (Below.mono hbd2 (by first | (simp; done) | (simp; omega) | omega))) | (refine Below.trans ?_ (Below.mono B2 (by first | (simp; done) | (simp; omega) | omega)))))
  · have hR : cooR m t m1 xs = PR.bad (curC m t [(m1, xs)]) := by simp [cooR, hc]
    rw [hR]
    clear hR
    obtain ⟨cc, hcc0⟩ : ∃ cc, curC m t [(m1, xs)] = cc := ⟨_, rfl⟩
    rw [hcc0] at hc ⊢
    have HC := Lib.hid hcc0
    clear hcc0
    have hcc : (cc != 0) = true := by simpa using hc
    have hcd : (cc == 0) = false := by simpa using hc
    clear hc
    go_enter Try.func27, Try.ntmps27
    go_wp2_with fail
    (have X0 := ((RB2.mk1 w  (.int .i64 m) (.slice o t.length c) 32).1).below (w' := (((w.alloc (.cells #[.int .i64 m, .slice o t.length c] 32)).alloc (.cells #[.int .i64 m1, .slice o1 xs.length c1] 34)).alloc (.cells #[.int .i64 0, .slice none 0 0] 32))) (by (repeat (first | exact Below.refl _ _ | (refine Below.setCell ?_ (by first | (simp; done) | (simp; omega) | omega) _) | (refine Below.alloc ?_ (by first | (simp; done) | (simp; omega) | omega) _) | (refine below_drewN ?_ _) | (refine Below.drew ?_)))) (Nat.le_refl _); have Y0 := ((RB2.mk2 w (.cells #[.int .i64 m, .slice o t.length c] 32) (.int .i64 m1) (.slice o1 xs.length c1) 34).1).below (w' := (((w.alloc (.cells #[.int .i64 m, .slice o t.length c] 32)).alloc (.cells #[.int .i64 m1, .slice o1 xs.length c1] 34)).alloc (.cells #[.int .i64 0, .slice none 0 0] 32))) (by (repeat (first | exact Below.refl _ _ | (refine Below.setCell ?_ (by first | (simp; done) | (simp; omega) | omega) _) | (refine Below.alloc ?_ (by first | (simp; done) | (simp; omega) | omega) _) | (refine below_drewN ?_ _) | (refine Below.drew ?_)))) (Nat.le_refl _); have R0 := ((RB2.mk3 w (.cells #[.int .i64 m, .slice o t.length c] 32) (.cells #[.int .i64 m1, .slice o1 xs.length c1] 34) (.int .i64 0) (.slice none 0 0) 32)).below (w' := (((w.alloc (.cells #[.int .i64 m, .slice o t.length c] 32)).alloc (.cells #[.int .i64 m1, .slice o1 xs.length c1] 34)).alloc (.cells #[.int .i64 0, .slice none 0 0] 32))) (by (repeat (first | exact Below.refl _ _ | (refine Below.setCell ?_ (by first | (simp; done) | (simp; omega) | omega) _) | (refine Below.alloc ?_ (by first | (simp; done) | (simp; omega) | omega) _) | (refine below_drewN ?_ _) | (refine Below.drew ?_)))) (Nat.le_refl _); have B0 : Below w.heap.size w (((w.alloc (.cells #[.int .i64 m, .slice o t.length c] 32)).alloc (.cells #[.int .i64 m1, .slice o1 xs.length c1] 34)).alloc (.cells #[.int .i64 0, .slice none 0 0] 32)) := (by (repeat (first | exact Below.refl _ _ | (refine Below.setCell ?_ (by first | (simp; done) | (simp; omega) | omega) _) | (refine Below.alloc ?_ (by first | (simp; done) | (simp; omega) | omega) _) | (refine below_drewN ?_ _) | (refine Below.drew ?_)))); have hv0 := hv.below (w' := (((w.alloc (.cells #[.int .i64 m, .slice o t.length c] 32)).alloc (.cells #[.int .i64 m1, .slice o1 xs.length c1] 34)).alloc (.cells #[.int .i64 0, .slice none 0 0] 32))) (by (repeat (first | exact Below.refl _ _ | (refine Below.setCell ?_ (by first | (simp; done) | (simp; omega) | omega) _) | (refine Below.alloc ?_ (by first | (simp; done) | (simp; omega) | omega) _) | (refine below_drewN ?_ _) | (refine Below.drew ?_)))) (Nat.le_refl _); have hu0 := hu.below (w' := (((w.alloc (.cells #[.int .i64 m, .slice o t.length c] 32)).alloc (.cells #[.int .i64 m1, .slice o1 xs.length c1] 34)).alloc (.cells #[.int .i64 0, .slice none 0 0] 32))) (by (repeat (first | exact Below.refl _ _ | (refine Below.setCell ?_ (by first | (simp; done) | (simp; omega) | omega) _) | (refine Below.alloc ?_ (by first | (simp; done) | (simp; omega) | omega) _) | (refine below_drewN ?_ _) | (refine Below.drew ?_)))) (Nat.le_refl _); have HS0 := Lib.hid (show (((w.alloc (.cells #[.int .i64 m, .slice o t.length c] 32)).alloc (.cells #[.int .i64 m1, .slice o1 xs.length c1] 34)).alloc (.cells #[.int .i64 0, .slice none 0 0] 32)).heap.size = w.heap.size + 1 + 1 + 1 by simp); generalize ((w.alloc (.cells #[.int .i64 m, .slice o t.length c] 32)).alloc (.cells #[.int .i64 m1, .slice o1 xs.length c1] 34)).alloc (.cells #[.int .i64 0, .slice none 0 0] 32) = w0 at X0 Y0 R0 B0 hv0 hu0 HS0 ⊢)
    obtain ⟨x0, x1⟩ := id X0
    obtain ⟨y0, y1⟩ := id Y0
    go_wp2_with fail
    have hzb : Below w0.heap.size w0 (w0.alloc (.cells #[.int .i64 m1, .slice o1 xs.length c1] 34)) := (by (repeat (first | exact Below.refl _ _ | (refine Below.setCell ?_ (by first | (simp; done) | (simp; omega) | omega) _) | (refine Below.alloc ?_ (by first | (simp; done) | (simp; omega) | omega) _) | (refine below_drewN ?_ _) | (refine Below.drew ?_))))
    refine (l04Code_c m _ _ t [(m1, xs)] _ (hv0.below hzb (Nat.le_refl _)) (RdM.lit1c w0 HS0.out m1 _ xs hu0)).mono ?_
    clear hzb
    rw [HC.out]
    rintro e w1 ⟨rfl, hb⟩
    have hb := (show Below w0.heap.size w0 w1 from (by (repeat (first | exact Below.refl _ _ | (refine Below.setCell ?_ (by first | (simp; done) | (simp; omega) | omega) _) | (refine Below.alloc ?_ (by first | (simp; done) | (simp; omega) | omega) _) | (refine below_drewN ?_ _) | (refine Below.drew ?_) | (refine Below.trans ?_ (Below.mono hb (by first | (simp; done) | (simp; omega) | omega)))))))
    clear x0 x1 y0 y1 HS0
    (have X1 := X0.below hb (Nat.le_refl _); have Y1 := Y0.below hb (Nat.le_refl _); have R1 := R0.below hb (Nat.le_refl _); have B1 := B0.trans (hb.mono B0.size))
    clear hb
    have B1s := B1.size
    go_wp2_with fail
    have hd0 : Below w1.heap.size w1 w1.drew := (Below.refl _ _).drew
    have hsd0 := hd0.size
    obtain ⟨f0_a, f0_b⟩ := ((X1).below (Below.refl w1.heap.size w1) (Nat.le_refl _))
    refine wp_region_K (S := fun w' => w'.cell? ⟨w.heap.size, 0, none⟩ = some (.int .i64 m)) [] (by kernel_rfl) ?_
    have hHeld : (fun w' : World => w'.cell? ⟨w.heap.size, 0, none⟩ = some (.int .i64 m)) w1.drew := by go_keep
    refine' wpAnyK_takeL (i := 0) (v := _) rfl (by kernel_rfl) (by kernel_rfl) (by kernel_rfl) (by kernel_rfl) (fun _ _ _ h => h) (Or.inl ⟨by rfl, ?yT19⟩) hHeld ?rT19
    case yT19 => (intro w' hSw; (try dsimp only at hSw); go_simp; try with_reducible rfl)
    try simp only [List.getElem_toArray, List.getElem_cons_zero, List.getElem_cons_succ, Act.put, List.setIfInBounds_toArray, List.set_cons_zero, List.set_cons_succ]
    refine' wpAnyK_takeL (i := 1) (v := _) rfl (by kernel_rfl) (by kernel_rfl) (by kernel_rfl) (by kernel_rfl) (fun _ _ _ h => h) (Or.inl ⟨by rfl, ?yT20⟩) hHeld ?rT20
    case yT20 => (intro w' hSw; (try dsimp only at hSw); go_simp; try with_reducible rfl)
    try simp only [List.getElem_toArray, List.getElem_cons_zero, List.getElem_cons_succ, Act.put, List.setIfInBounds_toArray, List.set_cons_zero, List.set_cons_succ]
    refine' wpAnyK_takeL (i := 2) (v := _) rfl (by kernel_rfl) (by kernel_rfl) (by kernel_rfl) (by kernel_rfl) (fun _ _ _ h => h) (Or.inl ⟨by rfl, ?yT21⟩) hHeld ?rT21
    case yT21 => (intro w' hSw; (try dsimp only at hSw); go_simp; try with_reducible rfl)
    try simp only [List.getElem_toArray, List.getElem_cons_zero, List.getElem_cons_succ, Act.put, List.setIfInBounds_toArray, List.set_cons_zero, List.set_cons_succ]
    refine' wpAnyK_takeL (i := 3) (v := undef) rfl (by kernel_rfl) (by kernel_rfl) (by kernel_rfl) (by kernel_rfl) (fun _ _ _ h => h) (Or.inr ⟨by rfl, rfl⟩) hHeld ?rT22
    try simp only [List.getElem_toArray, List.getElem_cons_zero, List.getElem_cons_succ, Act.put, List.setIfInBounds_toArray, List.set_cons_zero, List.set_cons_succ]
    refine' wpAnyK_takeL (i := 4) (v := undef) rfl (by kernel_rfl) (by kernel_rfl) (by kernel_rfl) (by kernel_rfl) (fun _ _ _ h => h) (Or.inr ⟨by rfl, rfl⟩) hHeld ?rT23
    try simp only [List.getElem_toArray, List.getElem_cons_zero, List.getElem_cons_succ, Act.put, List.setIfInBounds_toArray, List.set_cons_zero, List.set_cons_succ]
    refine' wpAnyK_takeL (i := 5) (v := undef) rfl (by kernel_rfl) (by kernel_rfl) (by kernel_rfl) (by kernel_rfl) (fun _ _ _ h => h) (Or.inr ⟨by rfl, rfl⟩) hHeld ?rT24
    try simp only [List.getElem_toArray, List.getElem_cons_zero, List.getElem_cons_succ, Act.put, List.setIfInBounds_toArray, List.set_cons_zero, List.set_cons_succ]
    refine' wpAnyK_takeL (i := 6) (v := undef) rfl (by kernel_rfl) (by kernel_rfl) (by kernel_rfl) (by kernel_rfl) (fun _ _ _ h => h) (Or.inr ⟨by rfl, rfl⟩) hHeld ?rT25
    try simp only [List.getElem_toArray, List.getElem_cons_zero, List.getElem_cons_succ, Act.put, List.setIfInBounds_toArray, List.set_cons_zero, List.set_cons_succ]
    refine' wpAnyK_takeL (i := 7) (v := undef) rfl (by kernel_rfl) (by kernel_rfl) (by kernel_rfl) (by kernel_rfl) (fun _ _ _ h => h) (Or.inr ⟨by rfl, rfl⟩) hHeld ?rT26
    try simp only [List.getElem_toArray, List.getElem_cons_zero, List.getElem_cons_succ, Act.put, List.setIfInBounds_toArray, List.set_cons_zero, List.set_cons_succ]
    refine' wpAnyK_takeL (i := 8) (v := undef) rfl (by kernel_rfl) (by kernel_rfl) (by kernel_rfl) (by kernel_rfl) (fun _ _ _ h => h) (Or.inr ⟨by rfl, rfl⟩) hHeld ?rT27
    try simp only [List.getElem_toArray, List.getElem_cons_zero, List.getElem_cons_succ, Act.put, List.setIfInBounds_toArray, List.set_cons_zero, List.set_cons_succ]
    refine' wpAnyK_takeL (i := 9) (v := undef) rfl (by kernel_rfl) (by kernel_rfl) (by kernel_rfl) (by kernel_rfl) (fun _ _ _ h => h) (Or.inr ⟨by rfl, rfl⟩) hHeld ?rT28
    try simp only [List.getElem_toArray, List.getElem_cons_zero, List.getElem_cons_succ, Act.put, List.setIfInBounds_toArray, List.set_cons_zero, List.set_cons_succ]
    refine' wpAnyK_takeL (i := 10) (v := undef) rfl (by kernel_rfl) (by kernel_rfl) (by kernel_rfl) (by kernel_rfl) (fun _ _ _ h => h) (Or.inr ⟨by rfl, rfl⟩) hHeld ?rT29
    try simp only [List.getElem_toArray, List.getElem_cons_zero, List.getElem_cons_succ, Act.put, List.setIfInBounds_toArray, List.set_cons_zero, List.set_cons_succ]
    refine' wpAnyK_takeL (i := 11) (v := _) rfl (by kernel_rfl) (by kernel_rfl) (by kernel_rfl) (by kernel_rfl) (fun _ _ _ h => h) (Or.inl ⟨by rfl, ?yT30⟩) hHeld ?rT30
    case yT30 => (intro w' hSw; (try dsimp only at hSw); go_simp; try with_reducible rfl)
    try simp only [List.getElem_toArray, List.getElem_cons_zero, List.getElem_cons_succ, Act.put, List.setIfInBounds_toArray, List.set_cons_zero, List.set_cons_succ]
    refine wpAnyK_done (by kernel_rfl) ?_ _
    have R2 := R1.below hd0 (Nat.le_refl _)
    have B2 := B1.trans (hd0.mono B1s)
    generalize w1.drew = w2 at R2 B2 ⊢
    (obtain ⟨⟨r0, r1⟩, rf⟩ := id R2; go_wp2; exact bodyPost_ret (v := .tuple #[.agg #[.int .i64 0, .slice none 0 0], .int .i64 cc]) (by simp [results, Try.results27, go_sem, r0, r1]) rfl ⟨_, rfl, OwS.nil _ _, (by (repeat (first | exact Below.refl _ _ | (refine Below.setCell ?_ (by first | (simp; done) | (simp; omega) | omega) _) | (refine Below.alloc ?_ (by first | (simp; done) | (simp; omega) | omega) _) | (refine below_drewN ?_ _) | (refine Below.drew ?_) | (refine Below.trans ?_ (Below.mono B2 (by first | (simp; done) | (simp; omega) | omega)))))), by simp [PR.bad, sizeT, numT]⟩)

set_option maxHeartbeats 4000000 in
set_option maxRecDepth 100000 in
theorem IsLogarithm_c (m : Int) (v : Value) (t : List (List Int)) (m1 : Int) (u : Value) (xs : List Int) (w : World) (hv : RdT w v t) (hu : RdI w u xs) :
    Calls Try.prog 17 #[.agg #[.int .i64 m, v], .agg #[.int .i64 m1, u]] w fun e w' => BEnd w w' (isLogR m t m1 xs) e := by
  obtain ⟨o, c, rfl, -, -⟩ := id hv
  obtain ⟨o1, c1, rfl, hmu, -⟩ := id hu
  by_cases hc : curC m t [(m1, xs)] = 0
  · obtain ⟨a1, a2⟩ := curC_0 hc
    obtain ⟨s1, e1, l1, z1⟩ := a2 (m1, xs) (by simp)
    replace s1 : serB m1 xs = true := s1
    replace l1 : xs.length = t.length := l1
    replace e1 : m = m1 := e1.symm
    replace z1 : at0 xs 0 = 0 := z1
    subst e1
    have hp := (lawB_t a1).1
    have hn := pla_n hp
    have hm := pla_m hp
    have hx := ser_x s1
    have HC := Lib.hid hc
    have HT := Lib.hid (show PlaT m t.length t from ⟨rfl, pla_row hp⟩)
    have HLX := Lib.hid l1
    have HZ := Lib.hid z1
    have hcc : ((0 : Int) != 0) = false := by simp
    have hcd : ((0 : Int) == 0) = true := by simp
    have hnx := ser_n s1
    clear a1 a2 hp s1
    unfold maxLen at hmu
    obtain ⟨bx, fx, rfl, hcx⟩ := hu.cells (by omega)
    have c1x : w.cell? ⟨bx, fx + 1, none⟩ = some (.int .i64 (at0 xs 1)) := hcx 1 _ (some_at0 (by omega))
    have hr1 := at0_range (by omega) hx 1
    have i1 : (1 : Int) < (xs.length : Int) := by omega
    have i3 : 1 < xs.length := by omega
    have lc1 := cell_lt c1x
    clear hcx l1
    have hR : isLogR m t m xs = ⟨logB m t xs, 0⟩ := by simp [isLogR, hc]
    rw [hR]
    clear hR hc z1
    have HTh := Lib.hid (hornT_len m t.length t xs)
    have HAx := Lib.hid (axT_len t.length xs)
    have HTw := Lib.hid (twoT_ok (m := m) (show 0 < m by omega) (n := t.length) hx)
    cases h11 : (at0 xs 1 == 1)
    · have HL := Lib.hid (show logB m t xs = false by simp [logB, h11])
      rw [HL.out]
      go_enter Try.func17, Try.ntmps17
      go_wp2_with fail
      (have X0 := ((RB2.mk1 w  (.int .i64 m) (.slice o t.length c) 32).1).below (w' := ((w.alloc (.cells #[.int .i64 m, .slice o t.length c] 32)).alloc (.cells #[.int .i64 m, .slice (some ⟨bx, fx, none⟩) xs.length c1] 34))) (by (repeat (first | exact Below.refl _ _ | (refine Below.setCell ?_ (by first | (simp; done) | (simp; omega) | omega) _) | (refine Below.alloc ?_ (by first | (simp; done) | (simp; omega) | omega) _) | (refine below_drewN ?_ _) | (refine Below.drew ?_)))) (Nat.le_refl _); have Y0 := ((RB2.mk2 w (.cells #[.int .i64 m, .slice o t.length c] 32) (.int .i64 m) (.slice (some ⟨bx, fx, none⟩) xs.length c1) 34).1).below (w' := ((w.alloc (.cells #[.int .i64 m, .slice o t.length c] 32)).alloc (.cells #[.int .i64 m, .slice (some ⟨bx, fx, none⟩) xs.length c1] 34))) (by (repeat (first | exact Below.refl _ _ | (refine Below.setCell ?_ (by first | (simp; done) | (simp; omega) | omega) _) | (refine Below.alloc ?_ (by first | (simp; done) | (simp; omega) | omega) _) | (refine below_drewN ?_ _) | (refine Below.drew ?_)))) (Nat.le_refl _); have B0 : Below w.heap.size w ((w.alloc (.cells #[.int .i64 m, .slice o t.length c] 32)).alloc (.cells #[.int .i64 m, .slice (some ⟨bx, fx, none⟩) xs.length c1] 34)) := (by (repeat (first | exact Below.refl _ _ | (refine Below.setCell ?_ (by first | (simp; done) | (simp; omega) | omega) _) | (refine Below.alloc ?_ (by first | (simp; done) | (simp; omega) | omega) _) | (refine below_drewN ?_ _) | (refine Below.drew ?_)))); have hv0 := hv.below (w' := ((w.alloc (.cells #[.int .i64 m, .slice o t.length c] 32)).alloc (.cells #[.int .i64 m, .slice (some ⟨bx, fx, none⟩) xs.length c1] 34))) (by (repeat (first | exact Below.refl _ _ | (refine Below.setCell ?_ (by first | (simp; done) | (simp; omega) | omega) _) | (refine Below.alloc ?_ (by first | (simp; done) | (simp; omega) | omega) _) | (refine below_drewN ?_ _) | (refine Below.drew ?_)))) (Nat.le_refl _); have hu0 := hu.below (w' := ((w.alloc (.cells #[.int .i64 m, .slice o t.length c] 32)).alloc (.cells #[.int .i64 m, .slice (some ⟨bx, fx, none⟩) xs.length c1] 34))) (by (repeat (first | exact Below.refl _ _ | (refine Below.setCell ?_ (by first | (simp; done) | (simp; omega) | omega) _) | (refine Below.alloc ?_ (by first | (simp; done) | (simp; omega) | omega) _) | (refine below_drewN ?_ _) | (refine Below.drew ?_)))) (Nat.le_refl _); have HS0 := Lib.hid (show ((w.alloc (.cells #[.int .i64 m, .slice o t.length c] 32)).alloc (.cells #[.int .i64 m, .slice (some ⟨bx, fx, none⟩) xs.length c1] 34)).heap.size = w.heap.size + 1 + 1 by simp); generalize (w.alloc (.cells #[.int .i64 m, .slice o t.length c] 32)).alloc (.cells #[.int .i64 m, .slice (some ⟨bx, fx, none⟩) xs.length c1] 34) = w0 at X0 Y0 B0 hv0 hu0 HS0 ⊢)
      obtain ⟨x0, x1⟩ := id X0
      obtain ⟨y0, y1⟩ := id Y0
      go_wp2_with fail
      have hzb : Below w0.heap.size w0 (w0.alloc (.cells #[.int .i64 m, .slice (some ⟨bx, fx, none⟩) xs.length c1] 34)) := (by (repeat (first | exact Below.refl _ _ | (refine Below.setCell ?_ (by first | (simp; done) | (simp; omega) | omega) _) | (refine Below.alloc ?_ (by first | (simp; done) | (simp; omega) | omega) _) | (refine below_drewN ?_ _) | (refine Below.drew ?_))))
      refine (curved_c m _ _ t [(m, xs)] _ (hv0.below hzb (Nat.le_refl _)) (RdM.lit1c w0 HS0.out m _ xs hu0)).mono ?_
      clear hzb
      rw [HC.out]
      rintro e w1 ⟨rfl, hb⟩
      have hb := (show Below w0.heap.size w0 w1 from (by (repeat (first | exact Below.refl _ _ | (refine Below.setCell ?_ (by first | (simp; done) | (simp; omega) | omega) _) | (refine Below.alloc ?_ (by first | (simp; done) | (simp; omega) | omega) _) | (refine below_drewN ?_ _) | (refine Below.drew ?_) | (refine Below.trans ?_ (Below.mono hb (by first | (simp; done) | (simp; omega) | omega)))))))
      clear x0 x1 y0 y1 HS0
      (have X1 := X0.below hb (Nat.le_refl _); have Y1 := Y0.below hb (Nat.le_refl _); have hv1 := hv0.below hb (Nat.le_refl _); have hu1 := hu0.below hb (Nat.le_refl _); have B1 := B0.trans (hb.mono B0.size))
      clear hb
      have c11 := keep_cell B1 (Nat.le_refl _) c1x
      have B1s := B1.size
      go_wp2_with fail
      have hd0 : Below w1.heap.size w1 w1.drew := (Below.refl _ _).drew
      have hsd0 := hd0.size
      obtain ⟨f0_a, f0_b⟩ := ((X1).below (Below.refl w1.heap.size w1) (Nat.le_refl _))
      obtain ⟨f0_c, f0_d⟩ := ((Y1).below (Below.refl w1.heap.size w1) (Nat.le_refl _))
      have f0_e := keep_cell hd0 (Nat.le_refl _) c11
      refine wp_region_K (S := fun w' => w'.cell? ⟨w.heap.size, 0, none⟩ = some (.int .i64 m) ∧ w'.cell? ⟨w.heap.size, 1, none⟩ = some (.slice o t.length c) ∧ w'.cell? ⟨w.heap.size + 1, 0, none⟩ = some (.int .i64 m) ∧ w'.cell? ⟨w.heap.size + 1, 1, none⟩ = some (.slice (some ⟨bx, fx, none⟩) xs.length c1) ∧ w'.cell? ⟨bx, fx + 1, none⟩ = some (.int .i64 (at0 xs 1))) [] (by kernel_rfl) ?_
      have hHeld : (fun w' : World => w'.cell? ⟨w.heap.size, 0, none⟩ = some (.int .i64 m) ∧ w'.cell? ⟨w.heap.size, 1, none⟩ = some (.slice o t.length c) ∧ w'.cell? ⟨w.heap.size + 1, 0, none⟩ = some (.int .i64 m) ∧ w'.cell? ⟨w.heap.size + 1, 1, none⟩ = some (.slice (some ⟨bx, fx, none⟩) xs.length c1) ∧ w'.cell? ⟨bx, fx + 1, none⟩ = some (.int .i64 (at0 xs 1))) w1.drew := by go_keep
      refine' wpAnyK_takeL (i := 0) (v := _) rfl (by kernel_rfl) (by kernel_rfl) (by kernel_rfl) (by kernel_rfl) (fun _ _ _ h => h) (Or.inl ⟨by rfl, ?yT31⟩) hHeld ?rT31
      case yT31 => (intro w' hSw; (try dsimp only at hSw); go_simp; try with_reducible rfl)
      try simp only [List.getElem_toArray, List.getElem_cons_zero, List.getElem_cons_succ, Act.put, List.setIfInBounds_toArray, List.set_cons_zero, List.set_cons_succ]
      refine' wpAnyK_takeL (i := 1) (v := _) rfl (by kernel_rfl) (by kernel_rfl) (by kernel_rfl) (by kernel_rfl) (fun _ _ _ h => h) (Or.inl ⟨by rfl, ?yT32⟩) hHeld ?rT32
      case yT32 => (intro w' hSw; (try dsimp only at hSw); go_simp; try with_reducible rfl)
      try simp only [List.getElem_toArray, List.getElem_cons_zero, List.getElem_cons_succ, Act.put, List.setIfInBounds_toArray, List.set_cons_zero, List.set_cons_succ]
      refine' wpAnyK_takeL (i := 2) (v := _) rfl (by kernel_rfl) (by kernel_rfl) (by kernel_rfl) (by kernel_rfl) (fun _ _ _ h => h) (Or.inl ⟨by rfl, ?yT33⟩) hHeld ?rT33
      case yT33 => (intro w' hSw; (try dsimp only at hSw); go_simp; try with_reducible rfl)
      try simp only [List.getElem_toArray, List.getElem_cons_zero, List.getElem_cons_succ, Act.put, List.setIfInBounds_toArray, List.set_cons_zero, List.set_cons_succ]
      refine' wpAnyK_takeL (i := 3) (v := _) rfl (by kernel_rfl) (by kernel_rfl) (by kernel_rfl) (by kernel_rfl) (fun _ _ _ h => h) (Or.inl ⟨by rfl, ?yT34⟩) hHeld ?rT34
      case yT34 => (intro w' hSw; (try dsimp only at hSw); go_simp; try with_reducible rfl)
      try simp only [List.getElem_toArray, List.getElem_cons_zero, List.getElem_cons_succ, Act.put, List.setIfInBounds_toArray, List.set_cons_zero, List.set_cons_succ]
      refine' wpAnyK_takeL (i := 4) (v := _) rfl (by kernel_rfl) (by kernel_rfl) (by kernel_rfl) (by kernel_rfl) (fun _ _ _ h => h) (Or.inl ⟨by rfl, ?yT35⟩) hHeld ?rT35
      case yT35 => (intro w' hSw; (try dsimp only at hSw); go_simp; try with_reducible rfl)
      try simp only [List.getElem_toArray, List.getElem_cons_zero, List.getElem_cons_succ, Act.put, List.setIfInBounds_toArray, List.set_cons_zero, List.set_cons_succ]
      refine' wpAnyK_takeL (i := 5) (v := _) rfl (by kernel_rfl) (by kernel_rfl) (by kernel_rfl) (by kernel_rfl) (fun _ _ _ h => h) (Or.inl ⟨by rfl, ?yT36⟩) hHeld ?rT36
      case yT36 => (intro w' hSw; (try dsimp only at hSw); go_simp; try with_reducible rfl)
      try simp only [List.getElem_toArray, List.getElem_cons_zero, List.getElem_cons_succ, Act.put, List.setIfInBounds_toArray, List.set_cons_zero, List.set_cons_succ]
      refine' wpAnyK_takeL (i := 6) (v := undef) rfl (by kernel_rfl) (by kernel_rfl) (by kernel_rfl) (by kernel_rfl) (fun _ _ _ h => h) (Or.inr ⟨by rfl, rfl⟩) hHeld ?rT37
      try simp only [List.getElem_toArray, List.getElem_cons_zero, List.getElem_cons_succ, Act.put, List.setIfInBounds_toArray, List.set_cons_zero, List.set_cons_succ]
      refine' wpAnyK_takeL (i := 7) (v := undef) rfl (by kernel_rfl) (by kernel_rfl) (by kernel_rfl) (by kernel_rfl) (fun _ _ _ h => h) (Or.inr ⟨by rfl, rfl⟩) hHeld ?rT38
      try simp only [List.getElem_toArray, List.getElem_cons_zero, List.getElem_cons_succ, Act.put, List.setIfInBounds_toArray, List.set_cons_zero, List.set_cons_succ]
      refine' wpAnyK_takeL (i := 8) (v := undef) rfl (by kernel_rfl) (by kernel_rfl) (by kernel_rfl) (by kernel_rfl) (fun _ _ _ h => h) (Or.inr ⟨by rfl, rfl⟩) hHeld ?rT39
      try simp only [List.getElem_toArray, List.getElem_cons_zero, List.getElem_cons_succ, Act.put, List.setIfInBounds_toArray, List.set_cons_zero, List.set_cons_succ]
      refine' wpAnyK_takeL (i := 9) (v := undef) rfl (by kernel_rfl) (by kernel_rfl) (by kernel_rfl) (by kernel_rfl) (fun _ _ _ h => h) (Or.inr ⟨by rfl, rfl⟩) hHeld ?rT40
      try simp only [List.getElem_toArray, List.getElem_cons_zero, List.getElem_cons_succ, Act.put, List.setIfInBounds_toArray, List.set_cons_zero, List.set_cons_succ]
      refine' wpAnyK_takeL (i := 10) (v := undef) rfl (by kernel_rfl) (by kernel_rfl) (by kernel_rfl) (by kernel_rfl) (fun _ _ _ h => h) (Or.inr ⟨by rfl, rfl⟩) hHeld ?rT41
      try simp only [List.getElem_toArray, List.getElem_cons_zero, List.getElem_cons_succ, Act.put, List.setIfInBounds_toArray, List.set_cons_zero, List.set_cons_succ]
      refine' wpAnyK_takeL (i := 11) (v := undef) rfl (by kernel_rfl) (by kernel_rfl) (by kernel_rfl) (by kernel_rfl) (fun _ _ _ h => h) (Or.inr ⟨by rfl, rfl⟩) hHeld ?rT42
      try simp only [List.getElem_toArray, List.getElem_cons_zero, List.getElem_cons_succ, Act.put, List.setIfInBounds_toArray, List.set_cons_zero, List.set_cons_succ]
      refine' wpAnyK_takeL (i := 12) (v := undef) rfl (by kernel_rfl) (by kernel_rfl) (by kernel_rfl) (by kernel_rfl) (fun _ _ _ h => h) (Or.inr ⟨by rfl, rfl⟩) hHeld ?rT43
      try simp only [List.getElem_toArray, List.getElem_cons_zero, List.getElem_cons_succ, Act.put, List.setIfInBounds_toArray, List.set_cons_zero, List.set_cons_succ]
      refine' wpAnyK_takeL (i := 13) (v := undef) rfl (by kernel_rfl) (by kernel_rfl) (by kernel_rfl) (by kernel_rfl) (fun _ _ _ h => h) (Or.inr ⟨by rfl, rfl⟩) hHeld ?rT44
      try simp only [List.getElem_toArray, List.getElem_cons_zero, List.getElem_cons_succ, Act.put, List.setIfInBounds_toArray, List.set_cons_zero, List.set_cons_succ]
      refine' wpAnyK_takeL (i := 14) (v := undef) rfl (by kernel_rfl) (by kernel_rfl) (by kernel_rfl) (by kernel_rfl) (fun _ _ _ h => h) (Or.inr ⟨by rfl, rfl⟩) hHeld ?rT45
      try simp only [List.getElem_toArray, List.getElem_cons_zero, List.getElem_cons_succ, Act.put, List.setIfInBounds_toArray, List.set_cons_zero, List.set_cons_succ]
      refine' wpAnyK_takeL (i := 15) (v := _) rfl (by kernel_rfl) (by kernel_rfl) (by kernel_rfl) (by kernel_rfl) (fun _ _ _ h => h) (Or.inl ⟨by rfl, ?yT46⟩) hHeld ?rT46
      case yT46 => (intro w' hSw; (try dsimp only at hSw); go_simp; try with_reducible rfl)
      try simp only [List.getElem_toArray, List.getElem_cons_zero, List.getElem_cons_succ, Act.put, List.setIfInBounds_toArray, List.set_cons_zero, List.set_cons_succ]
      refine wpAnyK_oneL (i := 16) rfl (by kernel_rfl) (fun K hK => ?_)
      go_simp
      (try go_wp2_with fail)
      refine hK.out _ _ (fun _ => hHeld) ?_
      clear hK K
      try simp only [List.getElem_toArray, List.getElem_cons_zero, List.getElem_cons_succ, Act.put, List.setIfInBounds_toArray, List.set_cons_zero, List.set_cons_succ]
      refine wpAnyK_oneL (i := 17) rfl (by kernel_rfl) (fun K hK => ?_)
      go_simp
      (try go_wp2_with fail)
      refine hK.out _ _ (fun _ => hHeld) ?_
      clear hK K
      try simp only [List.getElem_toArray, List.getElem_cons_zero, List.getElem_cons_succ, Act.put, List.setIfInBounds_toArray, List.set_cons_zero, List.set_cons_succ]
      refine wpAnyK_done (by kernel_rfl) ?_ _
      have B2 := B1.trans (hd0.mono B1s)
      go_wp2
      go_ret2
      exact ⟨rfl, B2⟩
    · cases he : eqTB (hornT m t.length t xs) (twoT t.length xs)
      · have HL := Lib.hid (show logB m t xs = false by simp [logB, h11, he])
        rw [HL.out]
        have HA0 := Lib.hid (axT_ok (m := m) (show 0 < m by omega) (n := t.length) hx 0)
        have HA1 := Lib.hid (axT_ok (m := m) (show 0 < m by omega) (n := t.length) hx 1)
        have HAd := Lib.hid (axT_add (m := m) (n := t.length) hx (by omega) HZ.out)
        have HE := Lib.hid (show eqPB m (hornT m t.length t xs) m (twoT t.length xs) = false by simp [eqPB, he])
        go_enter Try.func17, Try.ntmps17
        go_wp2_with fail
        (have X0 := ((RB2.mk1 w  (.int .i64 m) (.slice o t.length c) 32).1).below (w' := ((w.alloc (.cells #[.int .i64 m, .slice o t.length c] 32)).alloc (.cells #[.int .i64 m, .slice (some ⟨bx, fx, none⟩) xs.length c1] 34))) (by (repeat (first | exact Below.refl _ _ | (refine Below.setCell ?_ (by first | (simp; done) | (simp; omega) | omega) _) | (refine Below.alloc ?_ (by first | (simp; done) | (simp; omega) | omega) _) | (refine below_drewN ?_ _) | (refine Below.drew ?_)))) (Nat.le_refl _); have Y0 := ((RB2.mk2 w (.cells #[.int .i64 m, .slice o t.length c] 32) (.int .i64 m) (.slice (some ⟨bx, fx, none⟩) xs.length c1) 34).1).below (w' := ((w.alloc (.cells #[.int .i64 m, .slice o t.length c] 32)).alloc (.cells #[.int .i64 m, .slice (some ⟨bx, fx, none⟩) xs.length c1] 34))) (by (repeat (first | exact Below.refl _ _ | (refine Below.setCell ?_ (by first | (simp; done) | (simp; omega) | omega) _) | (refine Below.alloc ?_ (by first | (simp; done) | (simp; omega) | omega) _) | (refine below_drewN ?_ _) | (refine Below.drew ?_)))) (Nat.le_refl _); have B0 : Below w.heap.size w ((w.alloc (.cells #[.int .i64 m, .slice o t.length c] 32)).alloc (.cells #[.int .i64 m, .slice (some ⟨bx, fx, none⟩) xs.length c1] 34)) := (by (repeat (first | exact Below.refl _ _ | (refine Below.setCell ?_ (by first | (simp; done) | (simp; omega) | omega) _) | (refine Below.alloc ?_ (by first | (simp; done) | (simp; omega) | omega) _) | (refine below_drewN ?_ _) | (refine Below.drew ?_)))); have hv0 := hv.below (w' := ((w.alloc (.cells #[.int .i64 m, .slice o t.length c] 32)).alloc (.cells #[.int .i64 m, .slice (some ⟨bx, fx, none⟩) xs.length c1] 34))) (by (repeat (first | exact Below.refl _ _ | (refine Below.setCell ?_ (by first | (simp; done) | (simp; omega) | omega) _) | (refine Below.alloc ?_ (by first | (simp; done) | (simp; omega) | omega) _) | (refine below_drewN ?_ _) | (refine Below.drew ?_)))) (Nat.le_refl _); have hu0 := hu.below (w' := ((w.alloc (.cells #[.int .i64 m, .slice o t.length c] 32)).alloc (.cells #[.int .i64 m, .slice (some ⟨bx, fx, none⟩) xs.length c1] 34))) (by (repeat (first | exact Below.refl _ _ | (refine Below.setCell ?_ (by first | (simp; done) | (simp; omega) | omega) _) | (refine Below.alloc ?_ (by first | (simp; done) | (simp; omega) | omega) _) | (refine below_drewN ?_ _) | (refine Below.drew ?_)))) (Nat.le_refl _); have HS0 := Lib.hid (show ((w.alloc (.cells #[.int .i64 m, .slice o t.length c] 32)).alloc (.cells #[.int .i64 m, .slice (some ⟨bx, fx, none⟩) xs.length c1] 34)).heap.size = w.heap.size + 1 + 1 by simp); generalize (w.alloc (.cells #[.int .i64 m, .slice o t.length c] 32)).alloc (.cells #[.int .i64 m, .slice (some ⟨bx, fx, none⟩) xs.length c1] 34) = w0 at X0 Y0 B0 hv0 hu0 HS0 ⊢)
        obtain ⟨x0, x1⟩ := id X0
        obtain ⟨y0, y1⟩ := id Y0
        go_wp2_with fail
        have hzb : Below w0.heap.size w0 (w0.alloc (.cells #[.int .i64 m, .slice (some ⟨bx, fx, none⟩) xs.length c1] 34)) := (by (repeat (first | exact Below.refl _ _ | (refine Below.setCell ?_ (by first | (simp; done) | (simp; omega) | omega) _) | (refine Below.alloc ?_ (by first | (simp; done) | (simp; omega) | omega) _) | (refine below_drewN ?_ _) | (refine Below.drew ?_))))
        refine (curved_c m _ _ t [(m, xs)] _ (hv0.below hzb (Nat.le_refl _)) (RdM.lit1c w0 HS0.out m _ xs hu0)).mono ?_
        clear hzb
        rw [HC.out]
        rintro e w1 ⟨rfl, hb⟩
        have hb := (show Below w0.heap.size w0 w1 from (by (repeat (first | exact Below.refl _ _ | (refine Below.setCell ?_ (by first | (simp; done) | (simp; omega) | omega) _) | (refine Below.alloc ?_ (by first | (simp; done) | (simp; omega) | omega) _) | (refine below_drewN ?_ _) | (refine Below.drew ?_) | (refine Below.trans ?_ (Below.mono hb (by first | (simp; done) | (simp; omega) | omega)))))))
        clear x0 x1 y0 y1 HS0
        (have X1 := X0.below hb (Nat.le_refl _); have Y1 := Y0.below hb (Nat.le_refl _); have hv1 := hv0.below hb (Nat.le_refl _); have hu1 := hu0.below hb (Nat.le_refl _); have B1 := B0.trans (hb.mono B0.size))
        clear hb
        have c11 := keep_cell B1 (Nat.le_refl _) c1x
        have B1s := B1.size
        go_wp2_with fail
        have hd0 : Below w1.heap.size w1 w1.drew := (Below.refl _ _).drew
        have hsd0 := hd0.size
        obtain ⟨f0_a, f0_b⟩ := ((X1).below (Below.refl w1.heap.size w1) (Nat.le_refl _))
        obtain ⟨f0_c, f0_d⟩ := ((Y1).below (Below.refl w1.heap.size w1) (Nat.le_refl _))
        have f0_e := keep_cell hd0 (Nat.le_refl _) c11
        refine wp_region_K (S := fun w' => w'.cell? ⟨w.heap.size, 0, none⟩ = some (.int .i64 m) ∧ w'.cell? ⟨w.heap.size, 1, none⟩ = some (.slice o t.length c) ∧ w'.cell? ⟨w.heap.size + 1, 0, none⟩ = some (.int .i64 m) ∧ w'.cell? ⟨w.heap.size + 1, 1, none⟩ = some (.slice (some ⟨bx, fx, none⟩) xs.length c1) ∧ w'.cell? ⟨bx, fx + 1, none⟩ = some (.int .i64 (at0 xs 1))) [] (by kernel_rfl) ?_
        have hHeld : (fun w' : World => w'.cell? ⟨w.heap.size, 0, none⟩ = some (.int .i64 m) ∧ w'.cell? ⟨w.heap.size, 1, none⟩ = some (.slice o t.length c) ∧ w'.cell? ⟨w.heap.size + 1, 0, none⟩ = some (.int .i64 m) ∧ w'.cell? ⟨w.heap.size + 1, 1, none⟩ = some (.slice (some ⟨bx, fx, none⟩) xs.length c1) ∧ w'.cell? ⟨bx, fx + 1, none⟩ = some (.int .i64 (at0 xs 1))) w1.drew := by go_keep
        refine' wpAnyK_takeL (i := 0) (v := _) rfl (by kernel_rfl) (by kernel_rfl) (by kernel_rfl) (by kernel_rfl) (fun _ _ _ h => h) (Or.inl ⟨by rfl, ?yT47⟩) hHeld ?rT47
        case yT47 => (intro w' hSw; (try dsimp only at hSw); go_simp; try with_reducible rfl)
        try simp only [List.getElem_toArray, List.getElem_cons_zero, List.getElem_cons_succ, Act.put, List.setIfInBounds_toArray, List.set_cons_zero, List.set_cons_succ]
        refine' wpAnyK_takeL (i := 1) (v := _) rfl (by kernel_rfl) (by kernel_rfl) (by kernel_rfl) (by kernel_rfl) (fun _ _ _ h => h) (Or.inl ⟨by rfl, ?yT48⟩) hHeld ?rT48
        case yT48 => (intro w' hSw; (try dsimp only at hSw); go_simp; try with_reducible rfl)
        try simp only [List.getElem_toArray, List.getElem_cons_zero, List.getElem_cons_succ, Act.put, List.setIfInBounds_toArray, List.set_cons_zero, List.set_cons_succ]
        refine' wpAnyK_takeL (i := 2) (v := _) rfl (by kernel_rfl) (by kernel_rfl) (by kernel_rfl) (by kernel_rfl) (fun _ _ _ h => h) (Or.inl ⟨by rfl, ?yT49⟩) hHeld ?rT49
        case yT49 => (intro w' hSw; (try dsimp only at hSw); go_simp; try with_reducible rfl)
        try simp only [List.getElem_toArray, List.getElem_cons_zero, List.getElem_cons_succ, Act.put, List.setIfInBounds_toArray, List.set_cons_zero, List.set_cons_succ]
        refine' wpAnyK_takeL (i := 3) (v := _) rfl (by kernel_rfl) (by kernel_rfl) (by kernel_rfl) (by kernel_rfl) (fun _ _ _ h => h) (Or.inl ⟨by rfl, ?yT50⟩) hHeld ?rT50
        case yT50 => (intro w' hSw; (try dsimp only at hSw); go_simp; try with_reducible rfl)
        try simp only [List.getElem_toArray, List.getElem_cons_zero, List.getElem_cons_succ, Act.put, List.setIfInBounds_toArray, List.set_cons_zero, List.set_cons_succ]
        refine' wpAnyK_takeL (i := 4) (v := _) rfl (by kernel_rfl) (by kernel_rfl) (by kernel_rfl) (by kernel_rfl) (fun _ _ _ h => h) (Or.inl ⟨by rfl, ?yT51⟩) hHeld ?rT51
        case yT51 => (intro w' hSw; (try dsimp only at hSw); go_simp; try with_reducible rfl)
        try simp only [List.getElem_toArray, List.getElem_cons_zero, List.getElem_cons_succ, Act.put, List.setIfInBounds_toArray, List.set_cons_zero, List.set_cons_succ]
        refine' wpAnyK_takeL (i := 5) (v := _) rfl (by kernel_rfl) (by kernel_rfl) (by kernel_rfl) (by kernel_rfl) (fun _ _ _ h => h) (Or.inl ⟨by rfl, ?yT52⟩) hHeld ?rT52
        case yT52 => (intro w' hSw; (try dsimp only at hSw); go_simp; try with_reducible rfl)
        try simp only [List.getElem_toArray, List.getElem_cons_zero, List.getElem_cons_succ, Act.put, List.setIfInBounds_toArray, List.set_cons_zero, List.set_cons_succ]
        refine' wpAnyK_takeL (i := 6) (v := _) rfl (by kernel_rfl) (by kernel_rfl) (by kernel_rfl) (by kernel_rfl) (fun _ _ _ h => h) (Or.inl ⟨by rfl, ?yT53⟩) hHeld ?rT53
        case yT53 => (intro w' hSw; (try dsimp only at hSw); go_simp; try with_reducible rfl)
        try simp only [List.getElem_toArray, List.getElem_cons_zero, List.getElem_cons_succ, Act.put, List.setIfInBounds_toArray, List.set_cons_zero, List.set_cons_succ]
        refine' wpAnyK_takeL (i := 7) (v := _) rfl (by kernel_rfl) (by kernel_rfl) (by kernel_rfl) (by kernel_rfl) (fun _ _ _ h => h) (Or.inl ⟨by rfl, ?yT54⟩) hHeld ?rT54
        case yT54 => (intro w' hSw; (try dsimp only at hSw); go_simp; try with_reducible rfl)
        try simp only [List.getElem_toArray, List.getElem_cons_zero, List.getElem_cons_succ, Act.put, List.setIfInBounds_toArray, List.set_cons_zero, List.set_cons_succ]
        refine' wpAnyK_takeL (i := 9) (v := _) rfl (by kernel_rfl) (by kernel_rfl) (by kernel_rfl) (by kernel_rfl) (fun _ _ _ h => h) (Or.inl ⟨by rfl, ?yT55⟩) hHeld ?rT55
        case yT55 => (intro w' hSw; (try dsimp only at hSw); go_simp; try with_reducible rfl)
        try simp only [List.getElem_toArray, List.getElem_cons_zero, List.getElem_cons_succ, Act.put, List.setIfInBounds_toArray, List.set_cons_zero, List.set_cons_succ]
        refine' wpAnyK_takeL (i := 11) (v := _) rfl (by kernel_rfl) (by kernel_rfl) (by kernel_rfl) (by kernel_rfl) (fun _ _ _ h => h) (Or.inl ⟨by rfl, ?yT56⟩) hHeld ?rT56
        case yT56 => (intro w' hSw; (try dsimp only at hSw); go_simp; try with_reducible rfl)
        try simp only [List.getElem_toArray, List.getElem_cons_zero, List.getElem_cons_succ, Act.put, List.setIfInBounds_toArray, List.set_cons_zero, List.set_cons_succ]
        refine wpAnyK_oneL (i := 8) rfl (by kernel_rfl) (fun K hK => ?_)
        go_simp
        go_at_call 55
        refine (ofS_c m m t.length _ _ xs t _ ((hu1).below (by (repeat (first | exact Below.refl _ _ | (refine Below.setCell ?_ (by first | (simp; done) | (simp; omega) | omega) _) | (refine Below.alloc ?_ (by first | (simp; done) | (simp; omega) | omega) _) | (refine below_drewN ?_ _) | (refine Below.drew ?_)))) (Nat.le_refl _)) ((hv1).below (by (repeat (first | exact Below.refl _ _ | (refine Below.setCell ?_ (by first | (simp; done) | (simp; omega) | omega) _) | (refine Below.alloc ?_ (by first | (simp; done) | (simp; omega) | omega) _) | (refine below_drewN ?_ _) | (refine Below.drew ?_)))) (Nat.le_refl _)) (by rw [HLX.out]; omega) (by rw [HLX.out]; omega) (by omega) (by omega) (by omega) (by omega) hx HT.out).mono ?_
        rintro e wd1 ⟨vl, rfl, hod1, hbd1⟩
        obtain ⟨ol, cl, rfl⟩ := hod1.shapeN (n := t.length) HTh.out
        have hd1 : Below w1.heap.size w1 wd1 := (by (repeat (first | exact Below.refl _ _ | (refine Below.setCell ?_ (by first | (simp; done) | (simp; omega) | omega) _) | (refine Below.alloc ?_ (by first | (simp; done) | (simp; omega) | omega) _) | (refine below_drewN ?_ _) | (refine Below.drew ?_) | (refine Below.trans ?_ (Below.mono hbd1 (by first | (simp; done) | (simp; omega) | omega))))))
        have hsd1 := hd1.size
        have hsz1_ := hbd1.size
        (try simp at hsz1_)
        obtain ⟨f1_a, f1_b⟩ := ((X1).below hd1 (Nat.le_refl _))
        obtain ⟨f1_c, f1_d⟩ := ((Y1).below hd1 (Nat.le_refl _))
        have f1_e := keep_cell hd1 (Nat.le_refl _) c11
        go_wp2_with fail
        clear hHeld
        have hHeld : (fun w' : World => w'.cell? ⟨w.heap.size, 0, none⟩ = some (.int .i64 m) ∧ w'.cell? ⟨w.heap.size, 1, none⟩ = some (.slice o t.length c) ∧ w'.cell? ⟨w.heap.size + 1, 0, none⟩ = some (.int .i64 m) ∧ w'.cell? ⟨w.heap.size + 1, 1, none⟩ = some (.slice (some ⟨bx, fx, none⟩) xs.length c1) ∧ w'.cell? ⟨bx, fx + 1, none⟩ = some (.int .i64 (at0 xs 1))) wd1 := by go_keep
        refine hK.out _ _ (fun _ => hHeld) ?_
        clear hK K
        try simp only [List.getElem_toArray, List.getElem_cons_zero, List.getElem_cons_succ, Act.put, List.setIfInBounds_toArray, List.set_cons_zero, List.set_cons_succ]
        refine wpAnyK_oneL (i := 10) rfl (by kernel_rfl) (fun K hK => ?_)
        go_simp
        go_at_call_of 57 (Value.int .i64 0)
        refine (onAxis0_c m t.length _ xs _ ((hu1).below (by (repeat (first | exact Below.refl _ _ | (refine Below.setCell ?_ (by first | (simp; done) | (simp; omega) | omega) _) | (refine Below.alloc ?_ (by first | (simp; done) | (simp; omega) | omega) _) | (refine below_drewN ?_ _) | (refine Below.drew ?_) | (refine Below.trans ?_ (Below.mono hbd1 (by first | (simp; done) | (simp; omega) | omega)))))) (Nat.le_refl _)) HLX.out (by omega) (by omega)).mono ?_
        rintro e wd2 ⟨va, rfl, hod2, hbd2⟩
        obtain ⟨oa, ca, rfl⟩ := hod2.shapeN (n := t.length) (axT_len _ _ _)
        have hd2 : Below w1.heap.size w1 wd2 := (by (repeat (first | exact Below.refl _ _ | (refine Below.setCell ?_ (by first | (simp; done) | (simp; omega) | omega) _) | (refine Below.alloc ?_ (by first | (simp; done) | (simp; omega) | omega) _) | (refine below_drewN ?_ _) | (refine Below.drew ?_) | (refine Below.trans ?_ (Below.mono hbd1 (by first | (simp; done) | (simp; omega) | omega))) | (refine Below.trans ?_ (Below.mono hbd2 (by first | (simp; done) | (simp; omega) | omega))))))
        have hsd2 := hd2.size
        have hsz2_ := hbd2.size
        (try simp at hsz2_)
        obtain ⟨f2_a, f2_b⟩ := ((X1).below hd2 (Nat.le_refl _))
        obtain ⟨f2_c, f2_d⟩ := ((Y1).below hd2 (Nat.le_refl _))
        have f2_e := keep_cell hd2 (Nat.le_refl _) c11
        go_wp2_with fail
        clear hHeld
        have hHeld : (fun w' : World => w'.cell? ⟨w.heap.size, 0, none⟩ = some (.int .i64 m) ∧ w'.cell? ⟨w.heap.size, 1, none⟩ = some (.slice o t.length c) ∧ w'.cell? ⟨w.heap.size + 1, 0, none⟩ = some (.int .i64 m) ∧ w'.cell? ⟨w.heap.size + 1, 1, none⟩ = some (.slice (some ⟨bx, fx, none⟩) xs.length c1) ∧ w'.cell? ⟨bx, fx + 1, none⟩ = some (.int .i64 (at0 xs 1))) wd2 := by go_keep
        refine hK.out _ _ (fun _ => hHeld) ?_
        clear hK K
        try simp only [List.getElem_toArray, List.getElem_cons_zero, List.getElem_cons_succ, Act.put, List.setIfInBounds_toArray, List.set_cons_zero, List.set_cons_succ]
        refine wpAnyK_oneL (i := 12) rfl (by kernel_rfl) (fun K hK => ?_)
        go_simp
        go_at_call_of 57 (Value.int .i64 1)
        refine (onAxis1_c m t.length _ xs _ ((hu1).below (by (repeat (first | exact Below.refl _ _ | (refine Below.setCell ?_ (by first | (simp; done) | (simp; omega) | omega) _) | (refine Below.alloc ?_ (by first | (simp; done) | (simp; omega) | omega) _) | (refine below_drewN ?_ _) | (refine Below.drew ?_) | (refine Below.trans ?_ (Below.mono hbd1 (by first | (simp; done) | (simp; omega) | omega))) | (refine Below.trans ?_ (Below.mono hbd2 (by first | (simp; done) | (simp; omega) | omega)))))) (Nat.le_refl _)) HLX.out (by omega) (by omega)).mono ?_
        rintro e wd3 ⟨vb, rfl, hod3, hbd3⟩
        obtain ⟨ob, cb, rfl⟩ := hod3.shapeN (n := t.length) (axT_len _ _ _)
        have hd3 : Below w1.heap.size w1 wd3 := (by (repeat (first | exact Below.refl _ _ | (refine Below.setCell ?_ (by first | (simp; done) | (simp; omega) | omega) _) | (refine Below.alloc ?_ (by first | (simp; done) | (simp; omega) | omega) _) | (refine below_drewN ?_ _) | (refine Below.drew ?_) | (refine Below.trans ?_ (Below.mono hbd1 (by first | (simp; done) | (simp; omega) | omega))) | (refine Below.trans ?_ (Below.mono hbd2 (by first | (simp; done) | (simp; omega) | omega))) | (refine Below.trans ?_ (Below.mono hbd3 (by first | (simp; done) | (simp; omega) | omega))))))
        have hsd3 := hd3.size
        have hsz3_ := hbd3.size
        (try simp at hsz3_)
        obtain ⟨f3_a, f3_b⟩ := ((X1).below hd3 (Nat.le_refl _))
        obtain ⟨f3_c, f3_d⟩ := ((Y1).below hd3 (Nat.le_refl _))
        have f3_e := keep_cell hd3 (Nat.le_refl _) c11
        go_wp2_with fail
        clear hHeld
        have hHeld : (fun w' : World => w'.cell? ⟨w.heap.size, 0, none⟩ = some (.int .i64 m) ∧ w'.cell? ⟨w.heap.size, 1, none⟩ = some (.slice o t.length c) ∧ w'.cell? ⟨w.heap.size + 1, 0, none⟩ = some (.int .i64 m) ∧ w'.cell? ⟨w.heap.size + 1, 1, none⟩ = some (.slice (some ⟨bx, fx, none⟩) xs.length c1) ∧ w'.cell? ⟨bx, fx + 1, none⟩ = some (.int .i64 (at0 xs 1))) wd3 := by go_keep
        refine hK.out _ _ (fun _ => hHeld) ?_
        clear hK K
        try simp only [List.getElem_toArray, List.getElem_cons_zero, List.getElem_cons_succ, Act.put, List.setIfInBounds_toArray, List.set_cons_zero, List.set_cons_succ]
        refine wpAnyK_oneL (i := 13) rfl (by kernel_rfl) (fun K hK => ?_)
        go_simp
        go_at_call 58
        refine (plusP_c m m _ _ (axT t.length xs 0) (axT t.length xs 1) _ ((hod2.below (by (repeat (first | exact Below.refl _ _ | (refine Below.setCell ?_ (by first | (simp; done) | (simp; omega) | omega) _) | (refine Below.alloc ?_ (by first | (simp; done) | (simp; omega) | omega) _) | (refine below_drewN ?_ _) | (refine Below.drew ?_) | (refine Below.trans ?_ (Below.mono hbd3 (by first | (simp; done) | (simp; omega) | omega)))))))).rd ((hod3.below (by (repeat (first | exact Below.refl _ _ | (refine Below.setCell ?_ (by first | (simp; done) | (simp; omega) | omega) _) | (refine Below.alloc ?_ (by first | (simp; done) | (simp; omega) | omega) _) | (refine below_drewN ?_ _) | (refine Below.drew ?_)))))).rd (by rw [axT_len]; omega) (by rw [axT_len]; omega) (by rw [axT_len, axT_len]) (by omega) (by omega) HA0.out.2 HA1.out.2).mono ?_
        rintro e wd4 ⟨vp, rfl, hod4, hbd4⟩
        rw [axT_len, HAd.out] at hod4; obtain ⟨op, cp, rfl⟩ := hod4.shapeN (n := t.length) HTw.out.1
        have hd4 : Below w1.heap.size w1 wd4 := (by (repeat (first | exact Below.refl _ _ | (refine Below.setCell ?_ (by first | (simp; done) | (simp; omega) | omega) _) | (refine Below.alloc ?_ (by first | (simp; done) | (simp; omega) | omega) _) | (refine below_drewN ?_ _) | (refine Below.drew ?_) | (refine Below.trans ?_ (Below.mono hbd1 (by first | (simp; done) | (simp; omega) | omega))) | (refine Below.trans ?_ (Below.mono hbd2 (by first | (simp; done) | (simp; omega) | omega))) | (refine Below.trans ?_ (Below.mono hbd3 (by first | (simp; done) | (simp; omega) | omega))) | (refine Below.trans ?_ (Below.mono hbd4 (by first | (simp; done) | (simp; omega) | omega))))))
        have hsd4 := hd4.size
        have hsz4_ := hbd4.size
        (try simp at hsz4_)
        obtain ⟨f4_a, f4_b⟩ := ((X1).below hd4 (Nat.le_refl _))
        obtain ⟨f4_c, f4_d⟩ := ((Y1).below hd4 (Nat.le_refl _))
        have f4_e := keep_cell hd4 (Nat.le_refl _) c11
        go_wp2_with fail
        clear hHeld
        have hHeld : (fun w' : World => w'.cell? ⟨w.heap.size, 0, none⟩ = some (.int .i64 m) ∧ w'.cell? ⟨w.heap.size, 1, none⟩ = some (.slice o t.length c) ∧ w'.cell? ⟨w.heap.size + 1, 0, none⟩ = some (.int .i64 m) ∧ w'.cell? ⟨w.heap.size + 1, 1, none⟩ = some (.slice (some ⟨bx, fx, none⟩) xs.length c1) ∧ w'.cell? ⟨bx, fx + 1, none⟩ = some (.int .i64 (at0 xs 1))) wd4 := by go_keep
        refine hK.out _ _ (fun _ => hHeld) ?_
        clear hK K
        try simp only [List.getElem_toArray, List.getElem_cons_zero, List.getElem_cons_succ, Act.put, List.setIfInBounds_toArray, List.set_cons_zero, List.set_cons_succ]
        refine wpAnyK_oneL (i := 14) rfl (by kernel_rfl) (fun K hK => ?_)
        go_simp
        go_at_call 56
        refine (sameP_c m m _ _ (hornT m t.length t xs) (twoT t.length xs) _ ((hod1.below (by (repeat (first | exact Below.refl _ _ | (refine Below.setCell ?_ (by first | (simp; done) | (simp; omega) | omega) _) | (refine Below.alloc ?_ (by first | (simp; done) | (simp; omega) | omega) _) | (refine below_drewN ?_ _) | (refine Below.drew ?_) | (refine Below.trans ?_ (Below.mono hbd2 (by first | (simp; done) | (simp; omega) | omega))) | (refine Below.trans ?_ (Below.mono hbd3 (by first | (simp; done) | (simp; omega) | omega))) | (refine Below.trans ?_ (Below.mono hbd4 (by first | (simp; done) | (simp; omega) | omega)))))))).rd ((hod4.below (by (repeat (first | exact Below.refl _ _ | (refine Below.setCell ?_ (by first | (simp; done) | (simp; omega) | omega) _) | (refine Below.alloc ?_ (by first | (simp; done) | (simp; omega) | omega) _) | (refine below_drewN ?_ _) | (refine Below.drew ?_)))))).rd).mono ?_
        rintro e wd5 ⟨hq, hbd5⟩
        rw [HE.out] at hq; subst hq
        have hd5 : Below w1.heap.size w1 wd5 := (by (repeat (first | exact Below.refl _ _ | (refine Below.setCell ?_ (by first | (simp; done) | (simp; omega) | omega) _) | (refine Below.alloc ?_ (by first | (simp; done) | (simp; omega) | omega) _) | (refine below_drewN ?_ _) | (refine Below.drew ?_) | (refine Below.trans ?_ (Below.mono hbd1 (by first | (simp; done) | (simp; omega) | omega))) | (refine Below.trans ?_ (Below.mono hbd2 (by first | (simp; done) | (simp; omega) | omega))) | (refine Below.trans ?_ (Below.mono hbd3 (by first | (simp; done) | (simp; omega) | omega))) | (refine Below.trans ?_ (Below.mono hbd4 (by first | (simp; done) | (simp; omega) | omega))) | (refine Below.trans ?_ (Below.mono hbd5 (by first | (simp; done) | (simp; omega) | omega))))))
        have hsd5 := hd5.size
        have hsz5_ := hbd5.size
        (try simp at hsz5_)
        obtain ⟨f5_a, f5_b⟩ := ((X1).below hd5 (Nat.le_refl _))
        obtain ⟨f5_c, f5_d⟩ := ((Y1).below hd5 (Nat.le_refl _))
        have f5_e := keep_cell hd5 (Nat.le_refl _) c11
        go_wp2_with fail
        clear hHeld
        have hHeld : (fun w' : World => w'.cell? ⟨w.heap.size, 0, none⟩ = some (.int .i64 m) ∧ w'.cell? ⟨w.heap.size, 1, none⟩ = some (.slice o t.length c) ∧ w'.cell? ⟨w.heap.size + 1, 0, none⟩ = some (.int .i64 m) ∧ w'.cell? ⟨w.heap.size + 1, 1, none⟩ = some (.slice (some ⟨bx, fx, none⟩) xs.length c1) ∧ w'.cell? ⟨bx, fx + 1, none⟩ = some (.int .i64 (at0 xs 1))) wd5 := by go_keep
        refine hK.out _ _ (fun _ => hHeld) ?_
        clear hK K
        try simp only [List.getElem_toArray, List.getElem_cons_zero, List.getElem_cons_succ, Act.put, List.setIfInBounds_toArray, List.set_cons_zero, List.set_cons_succ]
        refine wpAnyK_oneL (i := 15) rfl (by kernel_rfl) (fun K hK => ?_)
        go_simp
        (try go_wp2_with fail)
        refine hK.out _ _ (fun _ => hHeld) ?_
        clear hK K
        try simp only [List.getElem_toArray, List.getElem_cons_zero, List.getElem_cons_succ, Act.put, List.setIfInBounds_toArray, List.set_cons_zero, List.set_cons_succ]
        refine wpAnyK_oneL (i := 16) rfl (by kernel_rfl) (fun K hK => ?_)
        go_simp
        (try go_wp2_with fail)
        refine hK.out _ _ (fun _ => hHeld) ?_
        clear hK K
        try simp only [List.getElem_toArray, List.getElem_cons_zero, List.getElem_cons_succ, Act.put, List.setIfInBounds_toArray, List.set_cons_zero, List.set_cons_succ]
        refine wpAnyK_oneL (i := 17) rfl (by kernel_rfl) (fun K hK => ?_)
        go_simp
        (try go_wp2_with fail)
        refine hK.out _ _ (fun _ => hHeld) ?_
        clear hK K
        try simp only [List.getElem_toArray, List.getElem_cons_zero, List.getElem_cons_succ, Act.put, List.setIfInBounds_toArray, List.set_cons_zero, List.set_cons_succ]
        refine wpAnyK_done (by kernel_rfl) ?_ _
        have B2 := B1.trans (hd5.mono B1s)
        go_wp2
        go_ret2
        exact ⟨rfl, B2⟩
      · have HL := Lib.hid (show logB m t xs = true by simp [logB, h11, he])
        rw [HL.out]
        have HA0 := Lib.hid (axT_ok (m := m) (show 0 < m by omega) (n := t.length) hx 0)
        have HA1 := Lib.hid (axT_ok (m := m) (show 0 < m by omega) (n := t.length) hx 1)
        have HAd := Lib.hid (axT_add (m := m) (n := t.length) hx (by omega) HZ.out)
        have HE := Lib.hid (show eqPB m (hornT m t.length t xs) m (twoT t.length xs) = true by simp [eqPB, he])
        go_enter Try.func17, Try.ntmps17
        go_wp2_with fail
        (have X0 := ((RB2.mk1 w  (.int .i64 m) (.slice o t.length c) 32).1).below (w' := ((w.alloc (.cells #[.int .i64 m, .slice o t.length c] 32)).alloc (.cells #[.int .i64 m, .slice (some ⟨bx, fx, none⟩) xs.length c1] 34))) (by (repeat (first | exact Below.refl _ _ | (refine Below.setCell ?_ (by first | (simp; done) | (simp; omega) | omega) _) | (refine Below.alloc ?_ (by first | (simp; done) | (simp; omega) | omega) _) | (refine below_drewN ?_ _) | (refine Below.drew ?_)))) (Nat.le_refl _); have Y0 := ((RB2.mk2 w (.cells #[.int .i64 m, .slice o t.length c] 32) (.int .i64 m) (.slice (some ⟨bx, fx, none⟩) xs.length c1) 34).1).below (w' := ((w.alloc (.cells #[.int .i64 m, .slice o t.length c] 32)).alloc (.cells #[.int .i64 m, .slice (some ⟨bx, fx, none⟩) xs.length c1] 34))) (by (repeat (first | exact Below.refl _ _ | (refine Below.setCell ?_ (by first | (simp; done) | (simp; omega) | omega) _) | (refine Below.alloc ?_ (by first | (simp; done) | (simp; omega) | omega) _) | (refine below_drewN ?_ _) | (refine Below.drew ?_)))) (Nat.le_refl _); have B0 : Below w.heap.size w ((w.alloc (.cells #[.int .i64 m, .slice o t.length c] 32)).alloc (.cells #[.int .i64 m, .slice (some ⟨bx, fx, none⟩) xs.length c1] 34)) := (by (repeat (first | exact Below.refl _ _ | (refine Below.setCell ?_ (by first | (simp; done) | (simp; omega) | omega) _) | (refine Below.alloc ?_ (by first | (simp; done) | (simp; omega) | omega) _) | (refine below_drewN ?_ _) | (refine Below.drew ?_)))); have hv0 := hv.below (w' := ((w.alloc (.cells #[.int .i64 m, .slice o t.length c] 32)).alloc (.cells #[.int .i64 m, .slice (some ⟨bx, fx, none⟩) xs.length c1] 34))) (by (repeat (first | exact Below.refl _ _ | (refine Below.setCell ?_ (by first | (simp; done) | (simp; omega) | omega) _) | (refine Below.alloc ?_ (by first | (simp; done) | (simp; omega) | omega) _) | (refine below_drewN ?_ _) | (refine Below.drew ?_)))) (Nat.le_refl _); have hu0 := hu.below (w' := ((w.alloc (.cells #[.int .i64 m, .slice o t.length c] 32)).alloc (.cells #[.int .i64 m, .slice (some ⟨bx, fx, none⟩) xs.length c1] 34))) (by (repeat (first | exact Below.refl _ _ | (refine Below.setCell ?_ (by first | (simp; done) | (simp; omega) | omega) _) | (refine Below.alloc ?_ (by first | (simp; done) | (simp; omega) | omega) _) | (refine below_drewN ?_ _) | (refine Below.drew ?_)))) (Nat.le_refl _); have HS0 := Lib.hid (show ((w.alloc (.cells #[.int .i64 m, .slice o t.length c] 32)).alloc (.cells #[.int .i64 m, .slice (some ⟨bx, fx, none⟩) xs.length c1] 34)).heap.size = w.heap.size + 1 + 1 by simp); generalize (w.alloc (.cells #[.int .i64 m, .slice o t.length c] 32)).alloc (.cells #[.int .i64 m, .slice (some ⟨bx, fx, none⟩) xs.length c1] 34) = w0 at X0 Y0 B0 hv0 hu0 HS0 ⊢)
        obtain ⟨x0, x1⟩ := id X0
        obtain ⟨y0, y1⟩ := id Y0
        go_wp2_with fail
        have hzb : Below w0.heap.size w0 (w0.alloc (.cells #[.int .i64 m, .slice (some ⟨bx, fx, none⟩) xs.length c1] 34)) := (by (repeat (first | exact Below.refl _ _ | (refine Below.setCell ?_ (by first | (simp; done) | (simp; omega) | omega) _) | (refine Below.alloc ?_ (by first | (simp; done) | (simp; omega) | omega) _) | (refine below_drewN ?_ _) | (refine Below.drew ?_))))
        refine (curved_c m _ _ t [(m, xs)] _ (hv0.below hzb (Nat.le_refl _)) (RdM.lit1c w0 HS0.out m _ xs hu0)).mono ?_
        clear hzb
        rw [HC.out]
        rintro e w1 ⟨rfl, hb⟩
        have hb := (show Below w0.heap.size w0 w1 from (by (repeat (first | exact Below.refl _ _ | (refine Below.setCell ?_ (by first | (simp; done) | (simp; omega) | omega) _) | (refine Below.alloc ?_ (by first | (simp; done) | (simp; omega) | omega) _) | (refine below_drewN ?_ _) | (refine Below.drew ?_) | (refine Below.trans ?_ (Below.mono hb (by first | (simp; done) | (simp; omega) | omega)))))))
        clear x0 x1 y0 y1 HS0
        (have X1 := X0.below hb (Nat.le_refl _); have Y1 := Y0.below hb (Nat.le_refl _); have hv1 := hv0.below hb (Nat.le_refl _); have hu1 := hu0.below hb (Nat.le_refl _); have B1 := B0.trans (hb.mono B0.size))
        clear hb
        have c11 := keep_cell B1 (Nat.le_refl _) c1x
        have B1s := B1.size
        go_wp2_with fail
        have hd0 : Below w1.heap.size w1 w1.drew := (Below.refl _ _).drew
        have hsd0 := hd0.size
        obtain ⟨f0_a, f0_b⟩ := ((X1).below (Below.refl w1.heap.size w1) (Nat.le_refl _))
        obtain ⟨f0_c, f0_d⟩ := ((Y1).below (Below.refl w1.heap.size w1) (Nat.le_refl _))
        have f0_e := keep_cell hd0 (Nat.le_refl _) c11
        refine wp_region_K (S := fun w' => w'.cell? ⟨w.heap.size, 0, none⟩ = some (.int .i64 m) ∧ w'.cell? ⟨w.heap.size, 1, none⟩ = some (.slice o t.length c) ∧ w'.cell? ⟨w.heap.size + 1, 0, none⟩ = some (.int .i64 m) ∧ w'.cell? ⟨w.heap.size + 1, 1, none⟩ = some (.slice (some ⟨bx, fx, none⟩) xs.length c1) ∧ w'.cell? ⟨bx, fx + 1, none⟩ = some (.int .i64 (at0 xs 1))) [] (by kernel_rfl) ?_
        have hHeld : (fun w' : World => w'.cell? ⟨w.heap.size, 0, none⟩ = some (.int .i64 m) ∧ w'.cell? ⟨w.heap.size, 1, none⟩ = some (.slice o t.length c) ∧ w'.cell? ⟨w.heap.size + 1, 0, none⟩ = some (.int .i64 m) ∧ w'.cell? ⟨w.heap.size + 1, 1, none⟩ = some (.slice (some ⟨bx, fx, none⟩) xs.length c1) ∧ w'.cell? ⟨bx, fx + 1, none⟩ = some (.int .i64 (at0 xs 1))) w1.drew := by go_keep
        refine' wpAnyK_takeL (i := 0) (v := _) rfl (by kernel_rfl) (by kernel_rfl) (by kernel_rfl) (by kernel_rfl) (fun _ _ _ h => h) (Or.inl ⟨by rfl, ?yT57⟩) hHeld ?rT57
        case yT57 => (intro w' hSw; (try dsimp only at hSw); go_simp; try with_reducible rfl)
        try simp only [List.getElem_toArray, List.getElem_cons_zero, List.getElem_cons_succ, Act.put, List.setIfInBounds_toArray, List.set_cons_zero, List.set_cons_succ]
        refine' wpAnyK_takeL (i := 1) (v := _) rfl (by kernel_rfl) (by kernel_rfl) (by kernel_rfl) (by kernel_rfl) (fun _ _ _ h => h) (Or.inl ⟨by rfl, ?yT58⟩) hHeld ?rT58
        case yT58 => (intro w' hSw; (try dsimp only at hSw); go_simp; try with_reducible rfl)
        try simp only [List.getElem_toArray, List.getElem_cons_zero, List.getElem_cons_succ, Act.put, List.setIfInBounds_toArray, List.set_cons_zero, List.set_cons_succ]
        refine' wpAnyK_takeL (i := 2) (v := _) rfl (by kernel_rfl) (by kernel_rfl) (by kernel_rfl) (by kernel_rfl) (fun _ _ _ h => h) (Or.inl ⟨by rfl, ?yT59⟩) hHeld ?rT59
        case yT59 => (intro w' hSw; (try dsimp only at hSw); go_simp; try with_reducible rfl)
        try simp only [List.getElem_toArray, List.getElem_cons_zero, List.getElem_cons_succ, Act.put, List.setIfInBounds_toArray, List.set_cons_zero, List.set_cons_succ]
        refine' wpAnyK_takeL (i := 3) (v := _) rfl (by kernel_rfl) (by kernel_rfl) (by kernel_rfl) (by kernel_rfl) (fun _ _ _ h => h) (Or.inl ⟨by rfl, ?yT60⟩) hHeld ?rT60
        case yT60 => (intro w' hSw; (try dsimp only at hSw); go_simp; try with_reducible rfl)
        try simp only [List.getElem_toArray, List.getElem_cons_zero, List.getElem_cons_succ, Act.put, List.setIfInBounds_toArray, List.set_cons_zero, List.set_cons_succ]
        refine' wpAnyK_takeL (i := 4) (v := _) rfl (by kernel_rfl) (by kernel_rfl) (by kernel_rfl) (by kernel_rfl) (fun _ _ _ h => h) (Or.inl ⟨by rfl, ?yT61⟩) hHeld ?rT61
        case yT61 => (intro w' hSw; (try dsimp only at hSw); go_simp; try with_reducible rfl)
        try simp only [List.getElem_toArray, List.getElem_cons_zero, List.getElem_cons_succ, Act.put, List.setIfInBounds_toArray, List.set_cons_zero, List.set_cons_succ]
        refine' wpAnyK_takeL (i := 5) (v := _) rfl (by kernel_rfl) (by kernel_rfl) (by kernel_rfl) (by kernel_rfl) (fun _ _ _ h => h) (Or.inl ⟨by rfl, ?yT62⟩) hHeld ?rT62
        case yT62 => (intro w' hSw; (try dsimp only at hSw); go_simp; try with_reducible rfl)
        try simp only [List.getElem_toArray, List.getElem_cons_zero, List.getElem_cons_succ, Act.put, List.setIfInBounds_toArray, List.set_cons_zero, List.set_cons_succ]
        refine' wpAnyK_takeL (i := 6) (v := _) rfl (by kernel_rfl) (by kernel_rfl) (by kernel_rfl) (by kernel_rfl) (fun _ _ _ h => h) (Or.inl ⟨by rfl, ?yT63⟩) hHeld ?rT63
        case yT63 => (intro w' hSw; (try dsimp only at hSw); go_simp; try with_reducible rfl)
        try simp only [List.getElem_toArray, List.getElem_cons_zero, List.getElem_cons_succ, Act.put, List.setIfInBounds_toArray, List.set_cons_zero, List.set_cons_succ]
        refine' wpAnyK_takeL (i := 7) (v := _) rfl (by kernel_rfl) (by kernel_rfl) (by kernel_rfl) (by kernel_rfl) (fun _ _ _ h => h) (Or.inl ⟨by rfl, ?yT64⟩) hHeld ?rT64
        case yT64 => (intro w' hSw; (try dsimp only at hSw); go_simp; try with_reducible rfl)
        try simp only [List.getElem_toArray, List.getElem_cons_zero, List.getElem_cons_succ, Act.put, List.setIfInBounds_toArray, List.set_cons_zero, List.set_cons_succ]
        refine' wpAnyK_takeL (i := 9) (v := _) rfl (by kernel_rfl) (by kernel_rfl) (by kernel_rfl) (by kernel_rfl) (fun _ _ _ h => h) (Or.inl ⟨by rfl, ?yT65⟩) hHeld ?rT65
        case yT65 => (intro w' hSw; (try dsimp only at hSw); go_simp; try with_reducible rfl)
        try simp only [List.getElem_toArray, List.getElem_cons_zero, List.getElem_cons_succ, Act.put, List.setIfInBounds_toArray, List.set_cons_zero, List.set_cons_succ]
        refine' wpAnyK_takeL (i := 11) (v := _) rfl (by kernel_rfl) (by kernel_rfl) (by kernel_rfl) (by kernel_rfl) (fun _ _ _ h => h) (Or.inl ⟨by rfl, ?yT66⟩) hHeld ?rT66
        case yT66 => (intro w' hSw; (try dsimp only at hSw); go_simp; try with_reducible rfl)
        try simp only [List.getElem_toArray, List.getElem_cons_zero, List.getElem_cons_succ, Act.put, List.setIfInBounds_toArray, List.set_cons_zero, List.set_cons_succ]
        refine wpAnyK_oneL (i := 8) rfl (by kernel_rfl) (fun K hK => ?_)
        go_simp
        go_at_call 55
        refine (ofS_c m m t.length _ _ xs t _ ((hu1).below (by (repeat (first | exact Below.refl _ _ | (refine Below.setCell ?_ (by first | (simp; done) | (simp; omega) | omega) _) | (refine Below.alloc ?_ (by first | (simp; done) | (simp; omega) | omega) _) | (refine below_drewN ?_ _) | (refine Below.drew ?_)))) (Nat.le_refl _)) ((hv1).below (by (repeat (first | exact Below.refl _ _ | (refine Below.setCell ?_ (by first | (simp; done) | (simp; omega) | omega) _) | (refine Below.alloc ?_ (by first | (simp; done) | (simp; omega) | omega) _) | (refine below_drewN ?_ _) | (refine Below.drew ?_)))) (Nat.le_refl _)) (by rw [HLX.out]; omega) (by rw [HLX.out]; omega) (by omega) (by omega) (by omega) (by omega) hx HT.out).mono ?_
        rintro e wd1 ⟨vl, rfl, hod1, hbd1⟩
        obtain ⟨ol, cl, rfl⟩ := hod1.shapeN (n := t.length) HTh.out
        have hd1 : Below w1.heap.size w1 wd1 := (by (repeat (first | exact Below.refl _ _ | (refine Below.setCell ?_ (by first | (simp; done) | (simp; omega) | omega) _) | (refine Below.alloc ?_ (by first | (simp; done) | (simp; omega) | omega) _) | (refine below_drewN ?_ _) | (refine Below.drew ?_) | (refine Below.trans ?_ (Below.mono hbd1 (by first | (simp; done) | (simp; omega) | omega))))))
        have hsd1 := hd1.size
        have hsz1_ := hbd1.size
        (try simp at hsz1_)
        obtain ⟨f1_a, f1_b⟩ := ((X1).below hd1 (Nat.le_refl _))
        obtain ⟨f1_c, f1_d⟩ := ((Y1).below hd1 (Nat.le_refl _))
        have f1_e := keep_cell hd1 (Nat.le_refl _) c11
        go_wp2_with fail
        clear hHeld
        have hHeld : (fun w' : World => w'.cell? ⟨w.heap.size, 0, none⟩ = some (.int .i64 m) ∧ w'.cell? ⟨w.heap.size, 1, none⟩ = some (.slice o t.length c) ∧ w'.cell? ⟨w.heap.size + 1, 0, none⟩ = some (.int .i64 m) ∧ w'.cell? ⟨w.heap.size + 1, 1, none⟩ = some (.slice (some ⟨bx, fx, none⟩) xs.length c1) ∧ w'.cell? ⟨bx, fx + 1, none⟩ = some (.int .i64 (at0 xs 1))) wd1 := by go_keep
        refine hK.out _ _ (fun _ => hHeld) ?_
        clear hK K
        try simp only [List.getElem_toArray, List.getElem_cons_zero, List.getElem_cons_succ, Act.put, List.setIfInBounds_toArray, List.set_cons_zero, List.set_cons_succ]
        refine wpAnyK_oneL (i := 10) rfl (by kernel_rfl) (fun K hK => ?_)
        go_simp
        go_at_call_of 57 (Value.int .i64 0)
        refine (onAxis0_c m t.length _ xs _ ((hu1).below (by (repeat (first | exact Below.refl _ _ | (refine Below.setCell ?_ (by first | (simp; done) | (simp; omega) | omega) _) | (refine Below.alloc ?_ (by first | (simp; done) | (simp; omega) | omega) _) | (refine below_drewN ?_ _) | (refine Below.drew ?_) | (refine Below.trans ?_ (Below.mono hbd1 (by first | (simp; done) | (simp; omega) | omega)))))) (Nat.le_refl _)) HLX.out (by omega) (by omega)).mono ?_
        rintro e wd2 ⟨va, rfl, hod2, hbd2⟩
        obtain ⟨oa, ca, rfl⟩ := hod2.shapeN (n := t.length) (axT_len _ _ _)
        have hd2 : Below w1.heap.size w1 wd2 := (by (repeat (first | exact Below.refl _ _ | (refine Below.setCell ?_ (by first | (simp; done) | (simp; omega) | omega) _) | (refine Below.alloc ?_ (by first | (simp; done) | (simp; omega) | omega) _) | (refine below_drewN ?_ _) | (refine Below.drew ?_) | (refine Below.trans ?_ (Below.mono hbd1 (by first | (simp; done) | (simp; omega) | omega))) | (refine Below.trans ?_ (Below.mono hbd2 (by first | (simp; done) | (simp; omega) | omega))))))
        have hsd2 := hd2.size
        have hsz2_ := hbd2.size
        (try simp at hsz2_)
        obtain ⟨f2_a, f2_b⟩ := ((X1).below hd2 (Nat.le_refl _))
        obtain ⟨f2_c, f2_d⟩ := ((Y1).below hd2 (Nat.le_refl _))
        have f2_e := keep_cell hd2 (Nat.le_refl _) c11
        go_wp2_with fail
        clear hHeld
        have hHeld : (fun w' : World => w'.cell? ⟨w.heap.size, 0, none⟩ = some (.int .i64 m) ∧ w'.cell? ⟨w.heap.size, 1, none⟩ = some (.slice o t.length c) ∧ w'.cell? ⟨w.heap.size + 1, 0, none⟩ = some (.int .i64 m) ∧ w'.cell? ⟨w.heap.size + 1, 1, none⟩ = some (.slice (some ⟨bx, fx, none⟩) xs.length c1) ∧ w'.cell? ⟨bx, fx + 1, none⟩ = some (.int .i64 (at0 xs 1))) wd2 := by go_keep
        refine hK.out _ _ (fun _ => hHeld) ?_
        clear hK K
        try simp only [List.getElem_toArray, List.getElem_cons_zero, List.getElem_cons_succ, Act.put, List.setIfInBounds_toArray, List.set_cons_zero, List.set_cons_succ]
        refine wpAnyK_oneL (i := 12) rfl (by kernel_rfl) (fun K hK => ?_)
        go_simp
        go_at_call_of 57 (Value.int .i64 1)
        refine (onAxis1_c m t.length _ xs _ ((hu1).below (by (repeat (first | exact Below.refl _ _ | (refine Below.setCell ?_ (by first | (simp; done) | (simp; omega) | omega) _) | (refine Below.alloc ?_ (by first | (simp; done) | (simp; omega) | omega) _) | (refine below_drewN ?_ _) | (refine Below.drew ?_) | (refine Below.trans ?_ (Below.mono hbd1 (by first | (simp; done) | (simp; omega) | omega))) | (refine Below.trans ?_ (Below.mono hbd2 (by first | (simp; done) | (simp; omega) | omega)))))) (Nat.le_refl _)) HLX.out (by omega) (by omega)).mono ?_
        rintro e wd3 ⟨vb, rfl, hod3, hbd3⟩
        obtain ⟨ob, cb, rfl⟩ := hod3.shapeN (n := t.length) (axT_len _ _ _)
        have hd3 : Below w1.heap.size w1 wd3 := (by (repeat (first | exact Below.refl _ _ | (refine Below.setCell ?_ (by first | (simp; done) | (simp; omega) | omega) _) | (refine Below.alloc ?_ (by first | (simp; done) | (simp; omega) | omega) _) | (refine below_drewN ?_ _) | (refine Below.drew ?_) | (refine Below.trans ?_ (Below.mono hbd1 (by first | (simp; done) | (simp; omega) | omega))) | (refine Below.trans ?_ (Below.mono hbd2 (by first | (simp; done) | (simp; omega) | omega))) | (refine Below.trans ?_ (Below.mono hbd3 (by first | (simp; done) | (simp; omega) | omega))))))
        have hsd3 := hd3.size
        have hsz3_ := hbd3.size
        (try simp at hsz3_)
        obtain ⟨f3_a, f3_b⟩ := ((X1).below hd3 (Nat.le_refl _))
        obtain ⟨f3_c, f3_d⟩ := ((Y1).below hd3 (Nat.le_refl _))
        have f3_e := keep_cell hd3 (Nat.le_refl _) c11
        go_wp2_with fail
        clear hHeld
        have hHeld : (fun w' : World => w'.cell? ⟨w.heap.size, 0, none⟩ = some (.int .i64 m) ∧ w'.cell? ⟨w.heap.size, 1, none⟩ = some (.slice o t.length c) ∧ w'.cell? ⟨w.heap.size + 1, 0, none⟩ = some (.int .i64 m) ∧ w'.cell? ⟨w.heap.size + 1, 1, none⟩ = some (.slice (some ⟨bx, fx, none⟩) xs.length c1) ∧ w'.cell? ⟨bx, fx + 1, none⟩ = some (.int .i64 (at0 xs 1))) wd3 := by go_keep
        refine hK.out _ _ (fun _ => hHeld) ?_
        clear hK K
        try simp only [List.getElem_toArray, List.getElem_cons_zero, List.getElem_cons_succ, Act.put, List.setIfInBounds_toArray, List.set_cons_zero, List.set_cons_succ]
        refine wpAnyK_oneL (i := 13) rfl (by kernel_rfl) (fun K hK => ?_)
        go_simp
        go_at_call 58
        refine (plusP_c m m _ _ (axT t.length xs 0) (axT t.length xs 1) _ ((hod2.below (by (repeat (first | exact Below.refl _ _ | (refine Below.setCell ?_ (by first | (simp; done) | (simp; omega) | omega) _) | (refine Below.alloc ?_ (by first | (simp; done) | (simp; omega) | omega) _) | (refine below_drewN ?_ _) | (refine Below.drew ?_) | (refine Below.trans ?_ (Below.mono hbd3 (by first | (simp; done) | (simp; omega) | omega)))))))).rd ((hod3.below (by (repeat (first | exact Below.refl _ _ | (refine Below.setCell ?_ (by first | (simp; done) | (simp; omega) | omega) _) | (refine Below.alloc ?_ (by first | (simp; done) | (simp; omega) | omega) _) | (refine below_drewN ?_ _) | (refine Below.drew ?_)))))).rd (by rw [axT_len]; omega) (by rw [axT_len]; omega) (by rw [axT_len, axT_len]) (by omega) (by omega) HA0.out.2 HA1.out.2).mono ?_
        rintro e wd4 ⟨vp, rfl, hod4, hbd4⟩
        rw [axT_len, HAd.out] at hod4; obtain ⟨op, cp, rfl⟩ := hod4.shapeN (n := t.length) HTw.out.1
        have hd4 : Below w1.heap.size w1 wd4 := (by (repeat (first | exact Below.refl _ _ | (refine Below.setCell ?_ (by first | (simp; done) | (simp; omega) | omega) _) | (refine Below.alloc ?_ (by first | (simp; done) | (simp; omega) | omega) _) | (refine below_drewN ?_ _) | (refine Below.drew ?_) | (refine Below.trans ?_ (Below.mono hbd1 (by first | (simp; done) | (simp; omega) | omega))) | (refine Below.trans ?_ (Below.mono hbd2 (by first | (simp; done) | (simp; omega) | omega))) | (refine Below.trans ?_ (Below.mono hbd3 (by first | (simp; done) | (simp; omega) | omega))) | (refine Below.trans ?_ (Below.mono hbd4 (by first | (simp; done) | (simp; omega) | omega))))))
        have hsd4 := hd4.size
        have hsz4_ := hbd4.size
        (try simp at hsz4_)
        obtain ⟨f4_a, f4_b⟩ := ((X1).below hd4 (Nat.le_refl _))
        obtain ⟨f4_c, f4_d⟩ := ((Y1).below hd4 (Nat.le_refl _))
        have f4_e := keep_cell hd4 (Nat.le_refl _) c11
        go_wp2_with fail
        clear hHeld
        have hHeld : (fun w' : World => w'.cell? ⟨w.heap.size, 0, none⟩ = some (.int .i64 m) ∧ w'.cell? ⟨w.heap.size, 1, none⟩ = some (.slice o t.length c) ∧ w'.cell? ⟨w.heap.size + 1, 0, none⟩ = some (.int .i64 m) ∧ w'.cell? ⟨w.heap.size + 1, 1, none⟩ = some (.slice (some ⟨bx, fx, none⟩) xs.length c1) ∧ w'.cell? ⟨bx, fx + 1, none⟩ = some (.int .i64 (at0 xs 1))) wd4 := by go_keep
        refine hK.out _ _ (fun _ => hHeld) ?_
        clear hK K
        try simp only [List.getElem_toArray, List.getElem_cons_zero, List.getElem_cons_succ, Act.put, List.setIfInBounds_toArray, List.set_cons_zero, List.set_cons_succ]
        refine wpAnyK_oneL (i := 14) rfl (by kernel_rfl) (fun K hK => ?_)
        go_simp
        go_at_call 56
        refine (sameP_c m m _ _ (hornT m t.length t xs) (twoT t.length xs) _ ((hod1.below (by (repeat (first | exact Below.refl _ _ | (refine Below.setCell ?_ (by first | (simp; done) | (simp; omega) | omega) _) | (refine Below.alloc ?_ (by first | (simp; done) | (simp; omega) | omega) _) | (refine below_drewN ?_ _) | (refine Below.drew ?_) | (refine Below.trans ?_ (Below.mono hbd2 (by first | (simp; done) | (simp; omega) | omega))) | (refine Below.trans ?_ (Below.mono hbd3 (by first | (simp; done) | (simp; omega) | omega))) | (refine Below.trans ?_ (Below.mono hbd4 (by first | (simp; done) | (simp; omega) | omega)))))))).rd ((hod4.below (by (repeat (first | exact Below.refl _ _ | (refine Below.setCell ?_ (by first | (simp; done) | (simp; omega) | omega) _) | (refine Below.alloc ?_ (by first | (simp; done) | (simp; omega) | omega) _) | (refine below_drewN ?_ _) | (refine Below.drew ?_)))))).rd).mono ?_
        rintro e wd5 ⟨hq, hbd5⟩
        rw [HE.out] at hq; subst hq
        have hd5 : Below w1.heap.size w1 wd5 := (by (repeat (first | exact Below.refl _ _ | (refine Below.setCell ?_ (by first | (simp; done) | (simp; omega) | omega) _) | (refine Below.alloc ?_ (by first | (simp; done) | (simp; omega) | omega) _) | (refine below_drewN ?_ _) | (refine Below.drew ?_) | (refine Below.trans ?_ (Below.mono hbd1 (by first | (simp; done) | (simp; omega) | omega))) | (refine Below.trans ?_ (Below.mono hbd2 (by first | (simp; done) | (simp; omega) | omega))) | (refine Below.trans ?_ (Below.mono hbd3 (by first | (simp; done) | (simp; omega) | omega))) | (refine Below.trans ?_ (Below.mono hbd4 (by first | (simp; done) | (simp; omega) | omega))) | (refine Below.trans ?_ (Below.mono hbd5 (by first | (simp; done) | (simp; omega) | omega))))))
        have hsd5 := hd5.size
        have hsz5_ := hbd5.size
        (try simp at hsz5_)
        obtain ⟨f5_a, f5_b⟩ := ((X1).below hd5 (Nat.le_refl _))
        obtain ⟨f5_c, f5_d⟩ := ((Y1).below hd5 (Nat.le_refl _))
        have f5_e := keep_cell hd5 (Nat.le_refl _) c11
        go_wp2_with fail
        clear hHeld
        have hHeld : (fun w' : World => w'.cell? ⟨w.heap.size, 0, none⟩ = some (.int .i64 m) ∧ w'.cell? ⟨w.heap.size, 1, none⟩ = some (.slice o t.length c) ∧ w'.cell? ⟨w.heap.size + 1, 0, none⟩ = some (.int .i64 m) ∧ w'.cell? ⟨w.heap.size + 1, 1, none⟩ = some (.slice (some ⟨bx, fx, none⟩) xs.length c1) ∧ w'.cell? ⟨bx, fx + 1, none⟩ = some (.int .i64 (at0 xs 1))) wd5 := by go_keep
        refine hK.out _ _ (fun _ => hHeld) ?_
        clear hK K
        try simp only [List.getElem_toArray, List.getElem_cons_zero, List.getElem_cons_succ, Act.put, List.setIfInBounds_toArray, List.set_cons_zero, List.set_cons_succ]
        refine wpAnyK_oneL (i := 15) rfl (by kernel_rfl) (fun K hK => ?_)
        go_simp
        (try go_wp2_with fail)
        refine hK.out _ _ (fun _ => hHeld) ?_
        clear hK K
        try simp only [List.getElem_toArray, List.getElem_cons_zero, List.getElem_cons_succ, Act.put, List.setIfInBounds_toArray, List.set_cons_zero, List.set_cons_succ]
        refine wpAnyK_oneL (i := 16) rfl (by kernel_rfl) (fun K hK => ?_)
        go_simp
        (try go_wp2_with fail)
        refine hK.out _ _ (fun _ => hHeld) ?_
        clear hK K
        try simp only [List.getElem_toArray, List.getElem_cons_zero, List.getElem_cons_succ, Act.put, List.setIfInBounds_toArray, List.set_cons_zero, List.set_cons_succ]
        refine wpAnyK_oneL (i := 17) rfl (by kernel_rfl) (fun K hK => ?_)
        go_simp
        (try go_wp2_with fail)
        refine hK.out _ _ (fun _ => hHeld) ?_
        clear hK K
        try simp only [List.getElem_toArray, List.getElem_cons_zero, List.getElem_cons_succ, Act.put, List.setIfInBounds_toArray, List.set_cons_zero, List.set_cons_succ]
        refine wpAnyK_done (by kernel_rfl) ?_ _
        have B2 := B1.trans (hd5.mono B1s)
        go_wp2
        go_ret2
        exact ⟨rfl, B2⟩
  · have hR : isLogR m t m1 xs = ⟨false, curC m t [(m1, xs)]⟩ := by simp [isLogR, hc]
    rw [hR]
    clear hR
    obtain ⟨cc, hcc0⟩ : ∃ cc, curC m t [(m1, xs)] = cc := ⟨_, rfl⟩
    rw [hcc0] at hc ⊢
    have HC := Lib.hid hcc0
    clear hcc0
    have hcc : (cc != 0) = true := by simpa using hc
    have hcd : (cc == 0) = false := by simpa using hc
    clear hc
    go_enter Try.func17, Try.ntmps17
    go_wp2_with fail
    (have X0 := ((RB2.mk1 w  (.int .i64 m) (.slice o t.length c) 32).1).below (w' := ((w.alloc (.cells #[.int .i64 m, .slice o t.length c] 32)).alloc (.cells #[.int .i64 m1, .slice o1 xs.length c1] 34))) (by (repeat (first | exact Below.refl _ _ | (refine Below.setCell ?_ (by first | (simp; done) | (simp; omega) | omega) _) | (refine Below.alloc ?_ (by first | (simp; done) | (simp; omega) | omega) _) | (refine below_drewN ?_ _) | (refine Below.drew ?_)))) (Nat.le_refl _); have Y0 := ((RB2.mk2 w (.cells #[.int .i64 m, .slice o t.length c] 32) (.int .i64 m1) (.slice o1 xs.length c1) 34).1).below (w' := ((w.alloc (.cells #[.int .i64 m, .slice o t.length c] 32)).alloc (.cells #[.int .i64 m1, .slice o1 xs.length c1] 34))) (by (repeat (first | exact Below.refl _ _ | (refine Below.setCell ?_ (by first | (simp; done) | (simp; omega) | omega) _) | (refine Below.alloc ?_ (by first | (simp; done) | (simp; omega) | omega) _) | (refine below_drewN ?_ _) | (refine Below.drew ?_)))) (Nat.le_refl _); have B0 : Below w.heap.size w ((w.alloc (.cells #[.int .i64 m, .slice o t.length c] 32)).alloc (.cells #[.int .i64 m1, .slice o1 xs.length c1] 34)) := (by (repeat (first | exact Below.refl _ _ | (refine Below.setCell ?_ (by first | (simp; done) | (simp; omega) | omega) _) | (refine Below.alloc ?_ (by first | (simp; done) | (simp; omega) | omega) _) | (refine below_drewN ?_ _) | (refine Below.drew ?_)))); have hv0 := hv.below (w' := ((w.alloc (.cells #[.int .i64 m, .slice o t.length c] 32)).alloc (.cells #[.int .i64 m1, .slice o1 xs.length c1] 34))) (by (repeat (first | exact Below.refl _ _ | (refine Below.setCell ?_ (by first | (simp; done) | (simp; omega) | omega) _) | (refine Below.alloc ?_ (by first | (simp; done) | (simp; omega) | omega) _) | (refine below_drewN ?_ _) | (refine Below.drew ?_)))) (Nat.le_refl _); have hu0 := hu.below (w' := ((w.alloc (.cells #[.int .i64 m, .slice o t.length c] 32)).alloc (.cells #[.int .i64 m1, .slice o1 xs.length c1] 34))) (by (repeat (first | exact Below.refl _ _ | (refine Below.setCell ?_ (by first | (simp; done) | (simp; omega) | omega) _) | (refine Below.alloc ?_ (by first | (simp; done) | (simp; omega) | omega) _) | (refine below_drewN ?_ _) | (refine Below.drew ?_)))) (Nat.le_refl _); have HS0 := Lib.hid (show ((w.alloc (.cells #[.int .i64 m, .slice o t.length c] 32)).alloc (.cells #[.int .i64 m1, .slice o1 xs.length c1] 34)).heap.size = w.heap.size + 1 + 1 by simp); generalize (w.alloc (.cells #[.int .i64 m, .slice o t.length c] 32)).alloc (.cells #[.int .i64 m1, .slice o1 xs.length c1] 34) = w0 at X0 Y0 B0 hv0 hu0 HS0 ⊢)
    obtain ⟨x0, x1⟩ := id X0
    obtain ⟨y0, y1⟩ := id Y0
    go_wp2_with fail
    have hzb : Below w0.heap.size w0 (w0.alloc (.cells #[.int .i64 m1, .slice o1 xs.length c1] 34)) := (by (repeat (first | exact Below.refl _ _ | (refine Below.setCell ?_ (by first | (simp; done) | (simp; omega) | omega) _) | (refine Below.alloc ?_ (by first | (simp; done) | (simp; omega) | omega) _) | (refine below_drewN ?_ _) | (refine Below.drew ?_))))
    refine (curved_c m _ _ t [(m1, xs)] _ (hv0.below hzb (Nat.le_refl _)) (RdM.lit1c w0 HS0.out m1 _ xs hu0)).mono ?_
    clear hzb
    rw [HC.out]
    rintro e w1 ⟨rfl, hb⟩
    have hb := (show Below w0.heap.size w0 w1 from (by (repeat (first | exact Below.refl _ _ | (refine Below.setCell ?_ (by first | (simp; done) | (simp; omega) | omega) _) | (refine Below.alloc ?_ (by first | (simp; done) | (simp; omega) | omega) _) | (refine below_drewN ?_ _) | (refine Below.drew ?_) | (refine Below.trans ?_ (Below.mono hb (by first | (simp; done) | (simp; omega) | omega)))))))
    clear x0 x1 y0 y1 HS0
    (have X1 := X0.below hb (Nat.le_refl _); have B1 := B0.trans (hb.mono B0.size))
    clear hb
    go_wp2
    go_ret2
    exact ⟨rfl, B1⟩

set_option maxHeartbeats 4000000 in
set_option maxRecDepth 100000 in
theorem sIsLogarithm_c (m : Int) (v : Value) (t : List (List Int)) (m1 : Int) (u : Value) (xs : List Int) (w : World) (hv : RdT w v t) (hu : RdI w u xs) :
    Calls Try.prog 14 #[.agg #[.int .i64 m, v], .agg #[.int .i64 m1, u]] w fun e w' => BEnd w w' (isLogR m t m1 xs) e := by
  obtain ⟨o, c, rfl, -, -⟩ := id hv
  obtain ⟨o1, c1, rfl, hmu, -⟩ := id hu
  by_cases hc : curC m t [(m1, xs)] = 0
  · obtain ⟨a1, a2⟩ := curC_0 hc
    obtain ⟨s1, e1, l1, z1⟩ := a2 (m1, xs) (by simp)
    replace s1 : serB m1 xs = true := s1
    replace l1 : xs.length = t.length := l1
    replace e1 : m = m1 := e1.symm
    replace z1 : at0 xs 0 = 0 := z1
    subst e1
    have hp := (lawB_t a1).1
    have hn := pla_n hp
    have hm := pla_m hp
    have hx := ser_x s1
    have HC := Lib.hid hc
    have HT := Lib.hid (show PlaT m t.length t from ⟨rfl, pla_row hp⟩)
    have HLX := Lib.hid l1
    have HZ := Lib.hid z1
    have hcc : ((0 : Int) != 0) = false := by simp
    have hcd : ((0 : Int) == 0) = true := by simp
    have hnx := ser_n s1
    clear a1 a2 hp s1
    unfold maxLen at hmu
    obtain ⟨bx, fx, rfl, hcx⟩ := hu.cells (by omega)
    have c1x : w.cell? ⟨bx, fx + 1, none⟩ = some (.int .i64 (at0 xs 1)) := hcx 1 _ (some_at0 (by omega))
    have hr1 := at0_range (by omega) hx 1
    have i1 : (1 : Int) < (xs.length : Int) := by omega
    have i3 : 1 < xs.length := by omega
    have lc1 := cell_lt c1x
    clear hcx l1
    have hR : isLogR m t m xs = ⟨logB m t xs, 0⟩ := by simp [isLogR, hc]
    rw [hR]
    clear hR hc z1
    have HTh := Lib.hid (hornT_len m t.length t xs)
    have HAx := Lib.hid (axT_len t.length xs)
    have HTw := Lib.hid (twoT_ok (m := m) (show 0 < m by omega) (n := t.length) hx)
    cases h11 : (at0 xs 1 == 1)
    · have HL := Lib.hid (show logB m t xs = false by simp [logB, h11])
      rw [HL.out]
      go_enter Try.func14, Try.ntmps14
      go_wp2_with fail
      (have X0 := ((RB2.mk1 w  (.int .i64 m) (.slice o t.length c) 32).1).below (w' := ((w.alloc (.cells #[.int .i64 m, .slice o t.length c] 32)).alloc (.cells #[.int .i64 m, .slice (some ⟨bx, fx, none⟩) xs.length c1] 34))) (by (repeat (first | exact Below.refl _ _ | (refine Below.setCell ?_ (by first | (simp; done) | (simp; omega) | omega) _) | (refine Below.alloc ?_ (by first | (simp; done) | (simp; omega) | omega) _) | (refine below_drewN ?_ _) | (refine Below.drew ?_)))) (Nat.le_refl _); have Y0 := ((RB2.mk2 w (.cells #[.int .i64 m, .slice o t.length c] 32) (.int .i64 m) (.slice (some ⟨bx, fx, none⟩) xs.length c1) 34).1).below (w' := ((w.alloc (.cells #[.int .i64 m, .slice o t.length c] 32)).alloc (.cells #[.int .i64 m, .slice (some ⟨bx, fx, none⟩) xs.length c1] 34))) (by (repeat (first | exact Below.refl _ _ | (refine Below.setCell ?_ (by first | (simp; done) | (simp; omega) | omega) _) | (refine Below.alloc ?_ (by first | (simp; done) | (simp; omega) | omega) _) | (refine below_drewN ?_ _) | (refine Below.drew ?_)))) (Nat.le_refl _); have B0 : Below w.heap.size w ((w.alloc (.cells #[.int .i64 m, .slice o t.length c] 32)).alloc (.cells #[.int .i64 m, .slice (some ⟨bx, fx, none⟩) xs.length c1] 34)) := (by (repeat (first | exact Below.refl _ _ | (refine Below.setCell ?_ (by first | (simp; done) | (simp; omega) | omega) _) | (refine Below.alloc ?_ (by first | (simp; done) | (simp; omega) | omega) _) | (refine below_drewN ?_ _) | (refine Below.drew ?_)))); have hv0 := hv.below (w' := ((w.alloc (.cells #[.int .i64 m, .slice o t.length c] 32)).alloc (.cells #[.int .i64 m, .slice (some ⟨bx, fx, none⟩) xs.length c1] 34))) (by (repeat (first | exact Below.refl _ _ | (refine Below.setCell ?_ (by first | (simp; done) | (simp; omega) | omega) _) | (refine Below.alloc ?_ (by first | (simp; done) | (simp; omega) | omega) _) | (refine below_drewN ?_ _) | (refine Below.drew ?_)))) (Nat.le_refl _); have hu0 := hu.below (w' := ((w.alloc (.cells #[.int .i64 m, .slice o t.length c] 32)).alloc (.cells #[.int .i64 m, .slice (some ⟨bx, fx, none⟩) xs.length c1] 34))) (by (repeat (first | exact Below.refl _ _ | (refine Below.setCell ?_ (by first | (simp; done) | (simp; omega) | omega) _) | (refine Below.alloc ?_ (by first | (simp; done) | (simp; omega) | omega) _) | (refine below_drewN ?_ _) | (refine Below.drew ?_)))) (Nat.le_refl _); have HS0 := Lib.hid (show ((w.alloc (.cells #[.int .i64 m, .slice o t.length c] 32)).alloc (.cells #[.int .i64 m, .slice (some ⟨bx, fx, none⟩) xs.length c1] 34)).heap.size = w.heap.size + 1 + 1 by simp); generalize (w.alloc (.cells #[.int .i64 m, .slice o t.length c] 32)).alloc (.cells #[.int .i64 m, .slice (some ⟨bx, fx, none⟩) xs.length c1] 34) = w0 at X0 Y0 B0 hv0 hu0 HS0 ⊢)
      obtain ⟨x0, x1⟩ := id X0
      obtain ⟨y0, y1⟩ := id Y0
      go_wp2_with fail
      have hzb : Below w0.heap.size w0 (w0.alloc (.cells #[.int .i64 m, .slice (some ⟨bx, fx, none⟩) xs.length c1] 34)) := (by (repeat (first | exact Below.refl _ _ | (refine Below.setCell ?_ (by first | (simp; done) | (simp; omega) | omega) _) | (refine Below.alloc ?_ (by first | (simp; done) | (simp; omega) | omega) _) | (refine below_drewN ?_ _) | (refine Below.drew ?_))))
      refine (l04Code_c m _ _ t [(m, xs)] _ (hv0.below hzb (Nat.le_refl _)) (RdM.lit1c w0 HS0.out m _ xs hu0)).mono ?_
      clear hzb
      rw [HC.out]
      rintro e w1 ⟨rfl, hb⟩
      have hb := (show Below w0.heap.size w0 w1 from (by (repeat (first | exact Below.refl _ _ | (refine Below.setCell ?_ (by first | (simp; done) | (simp; omega) | omega) _) | (refine Below.alloc ?_ (by first | (simp; done) | (simp; omega) | omega) _) | (refine below_drewN ?_ _) | (refine Below.drew ?_) | (refine Below.trans ?_ (Below.mono hb (by first | (simp; done) | (simp; omega) | omega)))))))
      clear x0 x1 y0 y1 HS0
      (have X1 := X0.below hb (Nat.le_refl _); have Y1 := Y0.below hb (Nat.le_refl _); have hv1 := hv0.below hb (Nat.le_refl _); have hu1 := hu0.below hb (Nat.le_refl _); have B1 := B0.trans (hb.mono B0.size))
      clear hb
      have c11 := keep_cell B1 (Nat.le_refl _) c1x
      have B1s := B1.size
      go_wp2_with fail
      have hd0 : Below w1.heap.size w1 w1.drew := (Below.refl _ _).drew
      have hsd0 := hd0.size
      obtain ⟨f0_a, f0_b⟩ := ((X1).below (Below.refl w1.heap.size w1) (Nat.le_refl _))
      obtain ⟨f0_c, f0_d⟩ := ((Y1).below (Below.refl w1.heap.size w1) (Nat.le_refl _))
      have f0_e := keep_cell hd0 (Nat.le_refl _) c11
      refine wp_region_K (S := fun w' => w'.cell? ⟨w.heap.size, 0, none⟩ = some (.int .i64 m) ∧ w'.cell? ⟨w.heap.size, 1, none⟩ = some (.slice o t.length c) ∧ w'.cell? ⟨w.heap.size + 1, 0, none⟩ = some (.int .i64 m) ∧ w'.cell? ⟨w.heap.size + 1, 1, none⟩ = some (.slice (some ⟨bx, fx, none⟩) xs.length c1) ∧ w'.cell? ⟨bx, fx + 1, none⟩ = some (.int .i64 (at0 xs 1))) [] (by kernel_rfl) ?_
      have hHeld : (fun w' : World => w'.cell? ⟨w.heap.size, 0, none⟩ = some (.int .i64 m) ∧ w'.cell? ⟨w.heap.size, 1, none⟩ = some (.slice o t.length c) ∧ w'.cell? ⟨w.heap.size + 1, 0, none⟩ = some (.int .i64 m) ∧ w'.cell? ⟨w.heap.size + 1, 1, none⟩ = some (.slice (some ⟨bx, fx, none⟩) xs.length c1) ∧ w'.cell? ⟨bx, fx + 1, none⟩ = some (.int .i64 (at0 xs 1))) w1.drew := by go_keep
      refine' wpAnyK_takeL (i := 0) (v := _) rfl (by kernel_rfl) (by kernel_rfl) (by kernel_rfl) (by kernel_rfl) (fun _ _ _ h => h) (Or.inl ⟨by rfl, ?yT67⟩) hHeld ?rT67
      case yT67 => (intro w' hSw; (try dsimp only at hSw); go_simp; try with_reducible rfl)
      try simp only [List.getElem_toArray, List.getElem_cons_zero, List.getElem_cons_succ, Act.put, List.setIfInBounds_toArray, List.set_cons_zero, List.set_cons_succ]
      refine' wpAnyK_takeL (i := 1) (v := _) rfl (by kernel_rfl) (by kernel_rfl) (by kernel_rfl) (by kernel_rfl) (fun _ _ _ h => h) (Or.inl ⟨by rfl, ?yT68⟩) hHeld ?rT68
      case yT68 => (intro w' hSw; (try dsimp only at hSw); go_simp; try with_reducible rfl)
      try simp only [List.getElem_toArray, List.getElem_cons_zero, List.getElem_cons_succ, Act.put, List.setIfInBounds_toArray, List.set_cons_zero, List.set_cons_succ]
      refine' wpAnyK_takeL (i := 2) (v := _) rfl (by kernel_rfl) (by kernel_rfl) (by kernel_rfl) (by kernel_rfl) (fun _ _ _ h => h) (Or.inl ⟨by rfl, ?yT69⟩) hHeld ?rT69
      case yT69 => (intro w' hSw; (try dsimp only at hSw); go_simp; try with_reducible rfl)
      try simp only [List.getElem_toArray, List.getElem_cons_zero, List.getElem_cons_succ, Act.put, List.setIfInBounds_toArray, List.set_cons_zero, List.set_cons_succ]
      refine' wpAnyK_takeL (i := 3) (v := _) rfl (by kernel_rfl) (by kernel_rfl) (by kernel_rfl) (by kernel_rfl) (fun _ _ _ h => h) (Or.inl ⟨by rfl, ?yT70⟩) hHeld ?rT70
      case yT70 => (intro w' hSw; (try dsimp only at hSw); go_simp; try with_reducible rfl)
      try simp only [List.getElem_toArray, List.getElem_cons_zero, List.getElem_cons_succ, Act.put, List.setIfInBounds_toArray, List.set_cons_zero, List.set_cons_succ]
      refine' wpAnyK_takeL (i := 4) (v := _) rfl (by kernel_rfl) (by kernel_rfl) (by kernel_rfl) (by kernel_rfl) (fun _ _ _ h => h) (Or.inl ⟨by rfl, ?yT71⟩) hHeld ?rT71
      case yT71 => (intro w' hSw; (try dsimp only at hSw); go_simp; try with_reducible rfl)
      try simp only [List.getElem_toArray, List.getElem_cons_zero, List.getElem_cons_succ, Act.put, List.setIfInBounds_toArray, List.set_cons_zero, List.set_cons_succ]
      refine' wpAnyK_takeL (i := 5) (v := _) rfl (by kernel_rfl) (by kernel_rfl) (by kernel_rfl) (by kernel_rfl) (fun _ _ _ h => h) (Or.inl ⟨by rfl, ?yT72⟩) hHeld ?rT72
      case yT72 => (intro w' hSw; (try dsimp only at hSw); go_simp; try with_reducible rfl)
      try simp only [List.getElem_toArray, List.getElem_cons_zero, List.getElem_cons_succ, Act.put, List.setIfInBounds_toArray, List.set_cons_zero, List.set_cons_succ]
      refine' wpAnyK_takeL (i := 6) (v := undef) rfl (by kernel_rfl) (by kernel_rfl) (by kernel_rfl) (by kernel_rfl) (fun _ _ _ h => h) (Or.inr ⟨by rfl, rfl⟩) hHeld ?rT73
      try simp only [List.getElem_toArray, List.getElem_cons_zero, List.getElem_cons_succ, Act.put, List.setIfInBounds_toArray, List.set_cons_zero, List.set_cons_succ]
      refine' wpAnyK_takeL (i := 7) (v := undef) rfl (by kernel_rfl) (by kernel_rfl) (by kernel_rfl) (by kernel_rfl) (fun _ _ _ h => h) (Or.inr ⟨by rfl, rfl⟩) hHeld ?rT74
      try simp only [List.getElem_toArray, List.getElem_cons_zero, List.getElem_cons_succ, Act.put, List.setIfInBounds_toArray, List.set_cons_zero, List.set_cons_succ]
      refine' wpAnyK_takeL (i := 8) (v := undef) rfl (by kernel_rfl) (by kernel_rfl) (by kernel_rfl) (by kernel_rfl) (fun _ _ _ h => h) (Or.inr ⟨by rfl, rfl⟩) hHeld ?rT75
      try simp only [List.getElem_toArray, List.getElem_cons_zero, List.getElem_cons_succ, Act.put, List.setIfInBounds_toArray, List.set_cons_zero, List.set_cons_succ]
      refine' wpAnyK_takeL (i := 9) (v := undef) rfl (by kernel_rfl) (by kernel_rfl) (by kernel_rfl) (by kernel_rfl) (fun _ _ _ h => h) (Or.inr ⟨by rfl, rfl⟩) hHeld ?rT76
      try simp only [List.getElem_toArray, List.getElem_cons_zero, List.getElem_cons_succ, Act.put, List.setIfInBounds_toArray, List.set_cons_zero, List.set_cons_succ]
      refine' wpAnyK_takeL (i := 10) (v := undef) rfl (by kernel_rfl) (by kernel_rfl) (by kernel_rfl) (by kernel_rfl) (fun _ _ _ h => h) (Or.inr ⟨by rfl, rfl⟩) hHeld ?rT77
      try simp only [List.getElem_toArray, List.getElem_cons_zero, List.getElem_cons_succ, Act.put, List.setIfInBounds_toArray, List.set_cons_zero, List.set_cons_succ]
      refine' wpAnyK_takeL (i := 11) (v := undef) rfl (by kernel_rfl) (by kernel_rfl) (by kernel_rfl) (by kernel_rfl) (fun _ _ _ h => h) (Or.inr ⟨by rfl, rfl⟩) hHeld ?rT78
      try simp only [List.getElem_toArray, List.getElem_cons_zero, List.getElem_cons_succ, Act.put, List.setIfInBounds_toArray, List.set_cons_zero, List.set_cons_succ]
      refine' wpAnyK_takeL (i := 12) (v := undef) rfl (by kernel_rfl) (by kernel_rfl) (by kernel_rfl) (by kernel_rfl) (fun _ _ _ h => h) (Or.inr ⟨by rfl, rfl⟩) hHeld ?rT79
      try simp only [List.getElem_toArray, List.getElem_cons_zero, List.getElem_cons_succ, Act.put, List.setIfInBounds_toArray, List.set_cons_zero, List.set_cons_succ]
      refine' wpAnyK_takeL (i := 13) (v := undef) rfl (by kernel_rfl) (by kernel_rfl) (by kernel_rfl) (by kernel_rfl) (fun _ _ _ h => h) (Or.inr ⟨by rfl, rfl⟩) hHeld ?rT80
      try simp only [List.getElem_toArray, List.getElem_cons_zero, List.getElem_cons_succ, Act.put, List.setIfInBounds_toArray, List.set_cons_zero, List.set_cons_succ]
      refine' wpAnyK_takeL (i := 14) (v := undef) rfl (by kernel_rfl) (by kernel_rfl) (by kernel_rfl) (by kernel_rfl) (fun _ _ _ h => h) (Or.inr ⟨by rfl, rfl⟩) hHeld ?rT81
      try simp only [List.getElem_toArray, List.getElem_cons_zero, List.getElem_cons_succ, Act.put, List.setIfInBounds_toArray, List.set_cons_zero, List.set_cons_succ]
      refine' wpAnyK_takeL (i := 15) (v := undef) rfl (by kernel_rfl) (by kernel_rfl) (by kernel_rfl) (by kernel_rfl) (fun _ _ _ h => h) (Or.inr ⟨by rfl, rfl⟩) hHeld ?rT82
      try simp only [List.getElem_toArray, List.getElem_cons_zero, List.getElem_cons_succ, Act.put, List.setIfInBounds_toArray, List.set_cons_zero, List.set_cons_succ]
      refine' wpAnyK_takeL (i := 16) (v := undef) rfl (by kernel_rfl) (by kernel_rfl) (by kernel_rfl) (by kernel_rfl) (fun _ _ _ h => h) (Or.inr ⟨by rfl, rfl⟩) hHeld ?rT83
      try simp only [List.getElem_toArray, List.getElem_cons_zero, List.getElem_cons_succ, Act.put, List.setIfInBounds_toArray, List.set_cons_zero, List.set_cons_succ]
      refine' wpAnyK_takeL (i := 17) (v := undef) rfl (by kernel_rfl) (by kernel_rfl) (by kernel_rfl) (by kernel_rfl) (fun _ _ _ h => h) (Or.inr ⟨by rfl, rfl⟩) hHeld ?rT84
      try simp only [List.getElem_toArray, List.getElem_cons_zero, List.getElem_cons_succ, Act.put, List.setIfInBounds_toArray, List.set_cons_zero, List.set_cons_succ]
      refine' wpAnyK_takeL (i := 18) (v := undef) rfl (by kernel_rfl) (by kernel_rfl) (by kernel_rfl) (by kernel_rfl) (fun _ _ _ h => h) (Or.inr ⟨by rfl, rfl⟩) hHeld ?rT85
      try simp only [List.getElem_toArray, List.getElem_cons_zero, List.getElem_cons_succ, Act.put, List.setIfInBounds_toArray, List.set_cons_zero, List.set_cons_succ]
      refine' wpAnyK_takeL (i := 19) (v := _) rfl (by kernel_rfl) (by kernel_rfl) (by kernel_rfl) (by kernel_rfl) (fun _ _ _ h => h) (Or.inl ⟨by rfl, ?yT86⟩) hHeld ?rT86
      case yT86 => (intro w' hSw; (try dsimp only at hSw); go_simp; try with_reducible rfl)
      try simp only [List.getElem_toArray, List.getElem_cons_zero, List.getElem_cons_succ, Act.put, List.setIfInBounds_toArray, List.set_cons_zero, List.set_cons_succ]
      refine wpAnyK_oneL (i := 20) rfl (by kernel_rfl) (fun K hK => ?_)
      go_simp
      (try go_wp2_with fail)
      refine hK.out _ _ (fun _ => hHeld) ?_
      clear hK K
      try simp only [List.getElem_toArray, List.getElem_cons_zero, List.getElem_cons_succ, Act.put, List.setIfInBounds_toArray, List.set_cons_zero, List.set_cons_succ]
      refine wpAnyK_oneL (i := 21) rfl (by kernel_rfl) (fun K hK => ?_)
      go_simp
      (try go_wp2_with fail)
      refine hK.out _ _ (fun _ => hHeld) ?_
      clear hK K
      try simp only [List.getElem_toArray, List.getElem_cons_zero, List.getElem_cons_succ, Act.put, List.setIfInBounds_toArray, List.set_cons_zero, List.set_cons_succ]
      refine wpAnyK_done (by kernel_rfl) ?_ _
      have B2 := B1.trans (hd0.mono B1s)
      go_wp2
      go_ret2
      exact ⟨rfl, B2⟩
    · cases he : eqTB (hornT m t.length t xs) (twoT t.length xs)
      · have HL := Lib.hid (show logB m t xs = false by simp [logB, h11, he])
        rw [HL.out]
        go_enter Try.func14, Try.ntmps14
        go_wp2_with fail
        (have X0 := ((RB2.mk1 w  (.int .i64 m) (.slice o t.length c) 32).1).below (w' := ((w.alloc (.cells #[.int .i64 m, .slice o t.length c] 32)).alloc (.cells #[.int .i64 m, .slice (some ⟨bx, fx, none⟩) xs.length c1] 34))) (by (repeat (first | exact Below.refl _ _ | (refine Below.setCell ?_ (by first | (simp; done) | (simp; omega) | omega) _) | (refine Below.alloc ?_ (by first | (simp; done) | (simp; omega) | omega) _) | (refine below_drewN ?_ _) | (refine Below.drew ?_)))) (Nat.le_refl _); have Y0 := ((RB2.mk2 w (.cells #[.int .i64 m, .slice o t.length c] 32) (.int .i64 m) (.slice (some ⟨bx, fx, none⟩) xs.length c1) 34).1).below (w' := ((w.alloc (.cells #[.int .i64 m, .slice o t.length c] 32)).alloc (.cells #[.int .i64 m, .slice (some ⟨bx, fx, none⟩) xs.length c1] 34))) (by (repeat (first | exact Below.refl _ _ | (refine Below.setCell ?_ (by first | (simp; done) | (simp; omega) | omega) _) | (refine Below.alloc ?_ (by first | (simp; done) | (simp; omega) | omega) _) | (refine below_drewN ?_ _) | (refine Below.drew ?_)))) (Nat.le_refl _); have B0 : Below w.heap.size w ((w.alloc (.cells #[.int .i64 m, .slice o t.length c] 32)).alloc (.cells #[.int .i64 m, .slice (some ⟨bx, fx, none⟩) xs.length c1] 34)) := (by (repeat (first | exact Below.refl _ _ | (refine Below.setCell ?_ (by first | (simp; done) | (simp; omega) | omega) _) | (refine Below.alloc ?_ (by first | (simp; done) | (simp; omega) | omega) _) | (refine below_drewN ?_ _) | (refine Below.drew ?_)))); have hv0 := hv.below (w' := ((w.alloc (.cells #[.int .i64 m, .slice o t.length c] 32)).alloc (.cells #[.int .i64 m, .slice (some ⟨bx, fx, none⟩) xs.length c1] 34))) (by (repeat (first | exact Below.refl _ _ | (refine Below.setCell ?_ (by first | (simp; done) | (simp; omega) | omega) _) | (refine Below.alloc ?_ (by first | (simp; done) | (simp; omega) | omega) _) | (refine below_drewN ?_ _) | (refine Below.drew ?_)))) (Nat.le_refl _); have hu0 := hu.below (w' := ((w.alloc (.cells #[.int .i64 m, .slice o t.length c] 32)).alloc (.cells #[.int .i64 m, .slice (some ⟨bx, fx, none⟩) xs.length c1] 34))) (by (repeat (first | exact Below.refl _ _ | (refine Below.setCell ?_ (by first | (simp; done) | (simp; omega) | omega) _) | (refine Below.alloc ?_ (by first | (simp; done) | (simp; omega) | omega) _) | (refine below_drewN ?_ _) | (refine Below.drew ?_)))) (Nat.le_refl _); have HS0 := Lib.hid (show ((w.alloc (.cells #[.int .i64 m, .slice o t.length c] 32)).alloc (.cells #[.int .i64 m, .slice (some ⟨bx, fx, none⟩) xs.length c1] 34)).heap.size = w.heap.size + 1 + 1 by simp); generalize (w.alloc (.cells #[.int .i64 m, .slice o t.length c] 32)).alloc (.cells #[.int .i64 m, .slice (some ⟨bx, fx, none⟩) xs.length c1] 34) = w0 at X0 Y0 B0 hv0 hu0 HS0 ⊢)
        obtain ⟨x0, x1⟩ := id X0
        obtain ⟨y0, y1⟩ := id Y0
        go_wp2_with fail
        have hzb : Below w0.heap.size w0 (w0.alloc (.cells #[.int .i64 m, .slice (some ⟨bx, fx, none⟩) xs.length c1] 34)) := (by (repeat (first | exact Below.refl _ _ | (refine Below.setCell ?_ (by first | (simp; done) | (simp; omega) | omega) _) | (refine Below.alloc ?_ (by first | (simp; done) | (simp; omega) | omega) _) | (refine below_drewN ?_ _) | (refine Below.drew ?_))))
        refine (l04Code_c m _ _ t [(m, xs)] _ (hv0.below hzb (Nat.le_refl _)) (RdM.lit1c w0 HS0.out m _ xs hu0)).mono ?_
        clear hzb
        rw [HC.out]
        rintro e w1 ⟨rfl, hb⟩
        have hb := (show Below w0.heap.size w0 w1 from (by (repeat (first | exact Below.refl _ _ | (refine Below.setCell ?_ (by first | (simp; done) | (simp; omega) | omega) _) | (refine Below.alloc ?_ (by first | (simp; done) | (simp; omega) | omega) _) | (refine below_drewN ?_ _) | (refine Below.drew ?_) | (refine Below.trans ?_ (Below.mono hb (by first | (simp; done) | (simp; omega) | omega)))))))
        clear x0 x1 y0 y1 HS0
        (have X1 := X0.below hb (Nat.le_refl _); have Y1 := Y0.below hb (Nat.le_refl _); have hv1 := hv0.below hb (Nat.le_refl _); have hu1 := hu0.below hb (Nat.le_refl _); have B1 := B0.trans (hb.mono B0.size))
        clear hb
        have c11 := keep_cell B1 (Nat.le_refl _) c1x
        have B1s := B1.size
        go_wp2_with fail
        have hd0 : Below w1.heap.size w1 w1.drew := (Below.refl _ _).drew
        have hsd0 := hd0.size
        obtain ⟨f0_a, f0_b⟩ := ((X1).below (Below.refl w1.heap.size w1) (Nat.le_refl _))
        obtain ⟨f0_c, f0_d⟩ := ((Y1).below (Below.refl w1.heap.size w1) (Nat.le_refl _))
        have f0_e := keep_cell hd0 (Nat.le_refl _) c11
        refine wp_region_K (S := fun w' => w'.cell? ⟨w.heap.size, 0, none⟩ = some (.int .i64 m) ∧ w'.cell? ⟨w.heap.size, 1, none⟩ = some (.slice o t.length c) ∧ w'.cell? ⟨w.heap.size + 1, 0, none⟩ = some (.int .i64 m) ∧ w'.cell? ⟨w.heap.size + 1, 1, none⟩ = some (.slice (some ⟨bx, fx, none⟩) xs.length c1) ∧ w'.cell? ⟨bx, fx + 1, none⟩ = some (.int .i64 (at0 xs 1))) [] (by kernel_rfl) ?_
        have hHeld : (fun w' : World => w'.cell? ⟨w.heap.size, 0, none⟩ = some (.int .i64 m) ∧ w'.cell? ⟨w.heap.size, 1, none⟩ = some (.slice o t.length c) ∧ w'.cell? ⟨w.heap.size + 1, 0, none⟩ = some (.int .i64 m) ∧ w'.cell? ⟨w.heap.size + 1, 1, none⟩ = some (.slice (some ⟨bx, fx, none⟩) xs.length c1) ∧ w'.cell? ⟨bx, fx + 1, none⟩ = some (.int .i64 (at0 xs 1))) w1.drew := by go_keep
        refine' wpAnyK_takeL (i := 0) (v := _) rfl (by kernel_rfl) (by kernel_rfl) (by kernel_rfl) (by kernel_rfl) (fun _ _ _ h => h) (Or.inl ⟨by rfl, ?yT87⟩) hHeld ?rT87
        case yT87 => (intro w' hSw; (try dsimp only at hSw); go_simp; try with_reducible rfl)
        try simp only [List.getElem_toArray, List.getElem_cons_zero, List.getElem_cons_succ, Act.put, List.setIfInBounds_toArray, List.set_cons_zero, List.set_cons_succ]
        refine' wpAnyK_takeL (i := 1) (v := _) rfl (by kernel_rfl) (by kernel_rfl) (by kernel_rfl) (by kernel_rfl) (fun _ _ _ h => h) (Or.inl ⟨by rfl, ?yT88⟩) hHeld ?rT88
        case yT88 => (intro w' hSw; (try dsimp only at hSw); go_simp; try with_reducible rfl)
        try simp only [List.getElem_toArray, List.getElem_cons_zero, List.getElem_cons_succ, Act.put, List.setIfInBounds_toArray, List.set_cons_zero, List.set_cons_succ]
        refine' wpAnyK_takeL (i := 2) (v := _) rfl (by kernel_rfl) (by kernel_rfl) (by kernel_rfl) (by kernel_rfl) (fun _ _ _ h => h) (Or.inl ⟨by rfl, ?yT89⟩) hHeld ?rT89
        case yT89 => (intro w' hSw; (try dsimp only at hSw); go_simp; try with_reducible rfl)
        try simp only [List.getElem_toArray, List.getElem_cons_zero, List.getElem_cons_succ, Act.put, List.setIfInBounds_toArray, List.set_cons_zero, List.set_cons_succ]
        refine' wpAnyK_takeL (i := 3) (v := _) rfl (by kernel_rfl) (by kernel_rfl) (by kernel_rfl) (by kernel_rfl) (fun _ _ _ h => h) (Or.inl ⟨by rfl, ?yT90⟩) hHeld ?rT90
        case yT90 => (intro w' hSw; (try dsimp only at hSw); go_simp; try with_reducible rfl)
        try simp only [List.getElem_toArray, List.getElem_cons_zero, List.getElem_cons_succ, Act.put, List.setIfInBounds_toArray, List.set_cons_zero, List.set_cons_succ]
        refine' wpAnyK_takeL (i := 4) (v := _) rfl (by kernel_rfl) (by kernel_rfl) (by kernel_rfl) (by kernel_rfl) (fun _ _ _ h => h) (Or.inl ⟨by rfl, ?yT91⟩) hHeld ?rT91
        case yT91 => (intro w' hSw; (try dsimp only at hSw); go_simp; try with_reducible rfl)
        try simp only [List.getElem_toArray, List.getElem_cons_zero, List.getElem_cons_succ, Act.put, List.setIfInBounds_toArray, List.set_cons_zero, List.set_cons_succ]
        refine' wpAnyK_takeL (i := 5) (v := _) rfl (by kernel_rfl) (by kernel_rfl) (by kernel_rfl) (by kernel_rfl) (fun _ _ _ h => h) (Or.inl ⟨by rfl, ?yT92⟩) hHeld ?rT92
        case yT92 => (intro w' hSw; (try dsimp only at hSw); go_simp; try with_reducible rfl)
        try simp only [List.getElem_toArray, List.getElem_cons_zero, List.getElem_cons_succ, Act.put, List.setIfInBounds_toArray, List.set_cons_zero, List.set_cons_succ]
        refine' wpAnyK_takeL (i := 6) (v := _) rfl (by kernel_rfl) (by kernel_rfl) (by kernel_rfl) (by kernel_rfl) (fun _ _ _ h => h) (Or.inl ⟨by rfl, ?yT93⟩) hHeld ?rT93
        case yT93 => (intro w' hSw; (try dsimp only at hSw); go_simp; try with_reducible rfl)
        try simp only [List.getElem_toArray, List.getElem_cons_zero, List.getElem_cons_succ, Act.put, List.setIfInBounds_toArray, List.set_cons_zero, List.set_cons_succ]
        refine' wpAnyK_takeL (i := 7) (v := _) rfl (by kernel_rfl) (by kernel_rfl) (by kernel_rfl) (by kernel_rfl) (fun _ _ _ h => h) (Or.inl ⟨by rfl, ?yT94⟩) hHeld ?rT94
        case yT94 => (intro w' hSw; (try dsimp only at hSw); go_simp; try with_reducible rfl)
        try simp only [List.getElem_toArray, List.getElem_cons_zero, List.getElem_cons_succ, Act.put, List.setIfInBounds_toArray, List.set_cons_zero, List.set_cons_succ]
        refine' wpAnyK_takeL (i := 8) (v := _) rfl (by kernel_rfl) (by kernel_rfl) (by kernel_rfl) (by kernel_rfl) (fun _ _ _ h => h) (Or.inl ⟨by rfl, ?yT95⟩) hHeld ?rT95
        case yT95 => (intro w' hSw; (try dsimp only at hSw); go_simp; try with_reducible rfl)
        try simp only [List.getElem_toArray, List.getElem_cons_zero, List.getElem_cons_succ, Act.put, List.setIfInBounds_toArray, List.set_cons_zero, List.set_cons_succ]
        refine' wpAnyK_takeL (i := 9) (v := _) rfl (by kernel_rfl) (by kernel_rfl) (by kernel_rfl) (by kernel_rfl) (fun _ _ _ h => h) (Or.inl ⟨by rfl, ?yT96⟩) hHeld ?rT96
        case yT96 => (intro w' hSw; (try dsimp only at hSw); go_simp; try with_reducible rfl)
        try simp only [List.getElem_toArray, List.getElem_cons_zero, List.getElem_cons_succ, Act.put, List.setIfInBounds_toArray, List.set_cons_zero, List.set_cons_succ]
        refine' wpAnyK_takeL (i := 10) (v := _) rfl (by kernel_rfl) (by kernel_rfl) (by kernel_rfl) (by kernel_rfl) (fun _ _ _ h => h) (Or.inl ⟨by rfl, ?yT97⟩) hHeld ?rT97
        case yT97 => (intro w' hSw; (try dsimp only at hSw); go_simp; try with_reducible rfl)
        try simp only [List.getElem_toArray, List.getElem_cons_zero, List.getElem_cons_succ, Act.put, List.setIfInBounds_toArray, List.set_cons_zero, List.set_cons_succ]
        refine' wpAnyK_takeL (i := 11) (v := _) rfl (by kernel_rfl) (by kernel_rfl) (by kernel_rfl) (by kernel_rfl) (fun _ _ _ h => h) (Or.inl ⟨by rfl, ?yT98⟩) hHeld ?rT98
        case yT98 => (intro w' hSw; (try dsimp only at hSw); go_simp; try with_reducible rfl)
        try simp only [List.getElem_toArray, List.getElem_cons_zero, List.getElem_cons_succ, Act.put, List.setIfInBounds_toArray, List.set_cons_zero, List.set_cons_succ]
        refine' wpAnyK_takeL (i := 13) (v := _) rfl (by kernel_rfl) (by kernel_rfl) (by kernel_rfl) (by kernel_rfl) (fun _ _ _ h => h) (Or.inl ⟨by rfl, ?yT99⟩) hHeld ?rT99
        case yT99 => (intro w' hSw; (try dsimp only at hSw); go_simp; try with_reducible rfl)
        try simp only [List.getElem_toArray, List.getElem_cons_zero, List.getElem_cons_succ, Act.put, List.setIfInBounds_toArray, List.set_cons_zero, List.set_cons_succ]
        refine' wpAnyK_takeL (i := 14) (v := _) rfl (by kernel_rfl) (by kernel_rfl) (by kernel_rfl) (by kernel_rfl) (fun _ _ _ h => h) (Or.inl ⟨by rfl, ?yT100⟩) hHeld ?rT100
        case yT100 => (intro w' hSw; (try dsimp only at hSw); go_simp; try with_reducible rfl)
        try simp only [List.getElem_toArray, List.getElem_cons_zero, List.getElem_cons_succ, Act.put, List.setIfInBounds_toArray, List.set_cons_zero, List.set_cons_succ]
        refine' wpAnyK_takeL (i := 15) (v := _) rfl (by kernel_rfl) (by kernel_rfl) (by kernel_rfl) (by kernel_rfl) (fun _ _ _ h => h) (Or.inl ⟨by rfl, ?yT101⟩) hHeld ?rT101
        case yT101 => (intro w' hSw; (try dsimp only at hSw); go_simp; try with_reducible rfl)
        try simp only [List.getElem_toArray, List.getElem_cons_zero, List.getElem_cons_succ, Act.put, List.setIfInBounds_toArray, List.set_cons_zero, List.set_cons_succ]
        refine' wpAnyK_takeL (i := 16) (v := _) rfl (by kernel_rfl) (by kernel_rfl) (by kernel_rfl) (by kernel_rfl) (fun _ _ _ h => h) (Or.inl ⟨by rfl, ?yT102⟩) hHeld ?rT102
        case yT102 => (intro w' hSw; (try dsimp only at hSw); go_simp; try with_reducible rfl)
        try simp only [List.getElem_toArray, List.getElem_cons_zero, List.getElem_cons_succ, Act.put, List.setIfInBounds_toArray, List.set_cons_zero, List.set_cons_succ]
        refine wpAnyK_oneL (i := 12) rfl (by kernel_rfl) (fun K hK => ?_)
        go_simp
        go_at_call 51
        refine (l03After_c m t.length _ _ xs t _ ((hu1).below (by (repeat (first | exact Below.refl _ _ | (refine Below.setCell ?_ (by first | (simp; done) | (simp; omega) | omega) _) | (refine Below.alloc ?_ (by first | (simp; done) | (simp; omega) | omega) _) | (refine below_drewN ?_ _) | (refine Below.drew ?_)))) (Nat.le_refl _)) ((hv1).below (by (repeat (first | exact Below.refl _ _ | (refine Below.setCell ?_ (by first | (simp; done) | (simp; omega) | omega) _) | (refine Below.alloc ?_ (by first | (simp; done) | (simp; omega) | omega) _) | (refine below_drewN ?_ _) | (refine Below.drew ?_)))) (Nat.le_refl _)) (by omega) (by omega) (by omega) (by omega) (by rw [HLX.out]; omega) hx HT.out).mono ?_
        rintro e wd1 ⟨vl, rfl, hod1, hbd1⟩
        obtain ⟨ol, cl, rfl⟩ := hod1.shapeN (n := t.length) HTh.out
        have hd1 : Below w1.heap.size w1 wd1 := (by (repeat (first | exact Below.refl _ _ | (refine Below.setCell ?_ (by first | (simp; done) | (simp; omega) | omega) _) | (refine Below.alloc ?_ (by first | (simp; done) | (simp; omega) | omega) _) | (refine below_drewN ?_ _) | (refine Below.drew ?_) | (refine Below.trans ?_ (Below.mono hbd1 (by first | (simp; done) | (simp; omega) | omega))))))
        have hsd1 := hd1.size
        have hsz1_ := hbd1.size
        (try simp at hsz1_)
        obtain ⟨f1_a, f1_b⟩ := ((X1).below hd1 (Nat.le_refl _))
        obtain ⟨f1_c, f1_d⟩ := ((Y1).below hd1 (Nat.le_refl _))
        have f1_e := keep_cell hd1 (Nat.le_refl _) c11
        go_wp2_with fail
        clear hHeld
        have hHeld : (fun w' : World => w'.cell? ⟨w.heap.size, 0, none⟩ = some (.int .i64 m) ∧ w'.cell? ⟨w.heap.size, 1, none⟩ = some (.slice o t.length c) ∧ w'.cell? ⟨w.heap.size + 1, 0, none⟩ = some (.int .i64 m) ∧ w'.cell? ⟨w.heap.size + 1, 1, none⟩ = some (.slice (some ⟨bx, fx, none⟩) xs.length c1) ∧ w'.cell? ⟨bx, fx + 1, none⟩ = some (.int .i64 (at0 xs 1))) wd1 := by go_keep
        refine hK.out _ _ (fun _ => hHeld) ?_
        clear hK K
        try simp only [List.getElem_toArray, List.getElem_cons_zero, List.getElem_cons_succ, Act.put, List.setIfInBounds_toArray, List.set_cons_zero, List.set_cons_succ]
        refine wpAnyK_oneL (i := 17) rfl (by kernel_rfl) (fun K hK => ?_)
        go_simp
        go_at_call 52
        refine (l05Sum_c m t.length _ xs _ ((hu1).below (by (repeat (first | exact Below.refl _ _ | (refine Below.setCell ?_ (by first | (simp; done) | (simp; omega) | omega) _) | (refine Below.alloc ?_ (by first | (simp; done) | (simp; omega) | omega) _) | (refine below_drewN ?_ _) | (refine Below.drew ?_) | (refine Below.trans ?_ (Below.mono hbd1 (by first | (simp; done) | (simp; omega) | omega)))))) (Nat.le_refl _)) HLX.out (by omega) (by omega)).mono ?_
        rintro e wd2 ⟨va, rfl, hod2, hbd2⟩
        obtain ⟨oa, ca, rfl⟩ := hod2.shapeN (n := t.length) HTw.out.1
        have hd2 : Below w1.heap.size w1 wd2 := (by (repeat (first | exact Below.refl _ _ | (refine Below.setCell ?_ (by first | (simp; done) | (simp; omega) | omega) _) | (refine Below.alloc ?_ (by first | (simp; done) | (simp; omega) | omega) _) | (refine below_drewN ?_ _) | (refine Below.drew ?_) | (refine Below.trans ?_ (Below.mono hbd1 (by first | (simp; done) | (simp; omega) | omega))) | (refine Below.trans ?_ (Below.mono hbd2 (by first | (simp; done) | (simp; omega) | omega))))))
        have hsd2 := hd2.size
        have hsz2_ := hbd2.size
        (try simp at hsz2_)
        obtain ⟨f2_a, f2_b⟩ := ((X1).below hd2 (Nat.le_refl _))
        obtain ⟨f2_c, f2_d⟩ := ((Y1).below hd2 (Nat.le_refl _))
        have f2_e := keep_cell hd2 (Nat.le_refl _) c11
        go_wp2_with fail
        clear hHeld
        have hHeld : (fun w' : World => w'.cell? ⟨w.heap.size, 0, none⟩ = some (.int .i64 m) ∧ w'.cell? ⟨w.heap.size, 1, none⟩ = some (.slice o t.length c) ∧ w'.cell? ⟨w.heap.size + 1, 0, none⟩ = some (.int .i64 m) ∧ w'.cell? ⟨w.heap.size + 1, 1, none⟩ = some (.slice (some ⟨bx, fx, none⟩) xs.length c1) ∧ w'.cell? ⟨bx, fx + 1, none⟩ = some (.int .i64 (at0 xs 1))) wd2 := by go_keep
        refine hK.out _ _ (fun _ => hHeld) ?_
        clear hK K
        try simp only [List.getElem_toArray, List.getElem_cons_zero, List.getElem_cons_succ, Act.put, List.setIfInBounds_toArray, List.set_cons_zero, List.set_cons_succ]
        refine wpAnyK_oneL (i := 18) rfl (by kernel_rfl) (fun K hK => ?_)
        go_simp
        go_at_call 50
        refine (l01Same2_c _ _ (hornT m t.length t xs) (twoT t.length xs) _ ((hod1.below (by (repeat (first | exact Below.refl _ _ | (refine Below.setCell ?_ (by first | (simp; done) | (simp; omega) | omega) _) | (refine Below.alloc ?_ (by first | (simp; done) | (simp; omega) | omega) _) | (refine below_drewN ?_ _) | (refine Below.drew ?_) | (refine Below.trans ?_ (Below.mono hbd2 (by first | (simp; done) | (simp; omega) | omega)))))))).rd ((hod2.below (by (repeat (first | exact Below.refl _ _ | (refine Below.setCell ?_ (by first | (simp; done) | (simp; omega) | omega) _) | (refine Below.alloc ?_ (by first | (simp; done) | (simp; omega) | omega) _) | (refine below_drewN ?_ _) | (refine Below.drew ?_)))))).rd).mono ?_
        rintro e wd3 ⟨hq, hbe⟩
        rw [he] at hq; subst hq; have hbd3 : Below wd2.heap.size wd2 wd3 := (by obtain ⟨q, rfl⟩ := hbe; exact below_drewN (Below.refl _ _) _); clear hbe
        have hd3 : Below w1.heap.size w1 wd3 := (by (repeat (first | exact Below.refl _ _ | (refine Below.setCell ?_ (by first | (simp; done) | (simp; omega) | omega) _) | (refine Below.alloc ?_ (by first | (simp; done) | (simp; omega) | omega) _) | (refine below_drewN ?_ _) | (refine Below.drew ?_) | (refine Below.trans ?_ (Below.mono hbd1 (by first | (simp; done) | (simp; omega) | omega))) | (refine Below.trans ?_ (Below.mono hbd2 (by first | (simp; done) | (simp; omega) | omega))) | (refine Below.trans ?_ (Below.mono hbd3 (by first | (simp; done) | (simp; omega) | omega))))))
        have hsd3 := hd3.size
        have hsz3_ := hbd3.size
        (try simp at hsz3_)
        obtain ⟨f3_a, f3_b⟩ := ((X1).below hd3 (Nat.le_refl _))
        obtain ⟨f3_c, f3_d⟩ := ((Y1).below hd3 (Nat.le_refl _))
        have f3_e := keep_cell hd3 (Nat.le_refl _) c11
        go_wp2_with fail
        clear hHeld
        have hHeld : (fun w' : World => w'.cell? ⟨w.heap.size, 0, none⟩ = some (.int .i64 m) ∧ w'.cell? ⟨w.heap.size, 1, none⟩ = some (.slice o t.length c) ∧ w'.cell? ⟨w.heap.size + 1, 0, none⟩ = some (.int .i64 m) ∧ w'.cell? ⟨w.heap.size + 1, 1, none⟩ = some (.slice (some ⟨bx, fx, none⟩) xs.length c1) ∧ w'.cell? ⟨bx, fx + 1, none⟩ = some (.int .i64 (at0 xs 1))) wd3 := by go_keep
        refine hK.out _ _ (fun _ => hHeld) ?_
        clear hK K
        try simp only [List.getElem_toArray, List.getElem_cons_zero, List.getElem_cons_succ, Act.put, List.setIfInBounds_toArray, List.set_cons_zero, List.set_cons_succ]
        refine wpAnyK_oneL (i := 19) rfl (by kernel_rfl) (fun K hK => ?_)
        go_simp
        (try go_wp2_with fail)
        refine hK.out _ _ (fun _ => hHeld) ?_
        clear hK K
        try simp only [List.getElem_toArray, List.getElem_cons_zero, List.getElem_cons_succ, Act.put, List.setIfInBounds_toArray, List.set_cons_zero, List.set_cons_succ]
        refine wpAnyK_oneL (i := 20) rfl (by kernel_rfl) (fun K hK => ?_)
        go_simp
        (try go_wp2_with fail)
        refine hK.out _ _ (fun _ => hHeld) ?_
        clear hK K
        try simp only [List.getElem_toArray, List.getElem_cons_zero, List.getElem_cons_succ, Act.put, List.setIfInBounds_toArray, List.set_cons_zero, List.set_cons_succ]
        refine wpAnyK_oneL (i := 21) rfl (by kernel_rfl) (fun K hK => ?_)
        go_simp
        (try go_wp2_with fail)
        refine hK.out _ _ (fun _ => hHeld) ?_
        clear hK K
        try simp only [List.getElem_toArray, List.getElem_cons_zero, List.getElem_cons_succ, Act.put, List.setIfInBounds_toArray, List.set_cons_zero, List.set_cons_succ]
        refine wpAnyK_done (by kernel_rfl) ?_ _
        have B2 := B1.trans (hd3.mono B1s)
        go_wp2
        go_ret2
        exact ⟨rfl, B2⟩
      · have HL := Lib.hid (show logB m t xs = true by simp [logB, h11, he])
        rw [HL.out]
        go_enter Try.func14, Try.ntmps14
        go_wp2_with fail
        (have X0 := ((RB2.mk1 w  (.int .i64 m) (.slice o t.length c) 32).1).below (w' := ((w.alloc (.cells #[.int .i64 m, .slice o t.length c] 32)).alloc (.cells #[.int .i64 m, .slice (some ⟨bx, fx, none⟩) xs.length c1] 34))) (by (repeat (first | exact Below.refl _ _ | (refine Below.setCell ?_ (by first | (simp; done) | (simp; omega) | omega) _) | (refine Below.alloc ?_ (by first | (simp; done) | (simp; omega) | omega) _) | (refine below_drewN ?_ _) | (refine Below.drew ?_)))) (Nat.le_refl _); have Y0 := ((RB2.mk2 w (.cells #[.int .i64 m, .slice o t.length c] 32) (.int .i64 m) (.slice (some ⟨bx, fx, none⟩) xs.length c1) 34).1).below (w' := ((w.alloc (.cells #[.int .i64 m, .slice o t.length c] 32)).alloc (.cells #[.int .i64 m, .slice (some ⟨bx, fx, none⟩) xs.length c1] 34))) (by (repeat (first | exact Below.refl _ _ | (refine Below.setCell ?_ (by first | (simp; done) | (simp; omega) | omega) _) | (refine Below.alloc ?_ (by first | (simp; done) | (simp; omega) | omega) _) | (refine below_drewN ?_ _) | (refine Below.drew ?_)))) (Nat.le_refl _); have B0 : Below w.heap.size w ((w.alloc (.cells #[.int .i64 m, .slice o t.length c] 32)).alloc (.cells #[.int .i64 m, .slice (some ⟨bx, fx, none⟩) xs.length c1] 34)) := (by (repeat (first | exact Below.refl _ _ | (refine Below.setCell ?_ (by first | (simp; done) | (simp; omega) | omega) _) | (refine Below.alloc ?_ (by first | (simp; done) | (simp; omega) | omega) _) | (refine below_drewN ?_ _) | (refine Below.drew ?_)))); have hv0 := hv.below (w' := ((w.alloc (.cells #[.int .i64 m, .slice o t.length c] 32)).alloc (.cells #[.int .i64 m, .slice (some ⟨bx, fx, none⟩) xs.length c1] 34))) (by (repeat (first | exact Below.refl _ _ | (refine Below.setCell ?_ (by first | (simp; done) | (simp; omega) | omega) _) | (refine Below.alloc ?_ (by first | (simp; done) | (simp; omega) | omega) _) | (refine below_drewN ?_ _) | (refine Below.drew ?_)))) (Nat.le_refl _); have hu0 := hu.below (w' := ((w.alloc (.cells #[.int .i64 m, .slice o t.length c] 32)).alloc (.cells #[.int .i64 m, .slice (some ⟨bx, fx, none⟩) xs.length c1] 34))) (by (repeat (first | exact Below.refl _ _ | (refine Below.setCell ?_ (by first | (simp; done) | (simp; omega) | omega) _) | (refine Below.alloc ?_ (by first | (simp; done) | (simp; omega) | omega) _) | (refine below_drewN ?_ _) | (refine Below.drew ?_)))) (Nat.le_refl _); have HS0 := Lib.hid (show ((w.alloc (.cells #[.int .i64 m, .slice o t.length c] 32)).alloc (.cells #[.int .i64 m, .slice (some ⟨bx, fx, none⟩) xs.length c1] 34)).heap.size = w.heap.size + 1 + 1 by simp); generalize (w.alloc (.cells #[.int .i64 m, .slice o t.length c] 32)).alloc (.cells #[.int .i64 m, .slice (some ⟨bx, fx, none⟩) xs.length c1] 34) = w0 at X0 Y0 B0 hv0 hu0 HS0 ⊢)
        obtain ⟨x0, x1⟩ := id X0
        obtain ⟨y0, y1⟩ := id Y0
        go_wp2_with fail
        have hzb : Below w0.heap.size w0 (w0.alloc (.cells #[.int .i64 m, .slice (some ⟨bx, fx, none⟩) xs.length c1] 34)) := (by (repeat (first | exact Below.refl _ _ | (refine Below.setCell ?_ (by first | (simp; done) | (simp; omega) | omega) _) | (refine Below.alloc ?_ (by first | (simp; done) | (simp; omega) | omega) _) | (refine below_drewN ?_ _) | (refine Below.drew ?_))))
        refine (l04Code_c m _ _ t [(m, xs)] _ (hv0.below hzb (Nat.le_refl _)) (RdM.lit1c w0 HS0.out m _ xs hu0)).mono ?_
        clear hzb
        rw [HC.out]
        rintro e w1 ⟨rfl, hb⟩
        have hb := (show Below w0.heap.size w0 w1 from (by (repeat (first | exact Below.refl _ _ | (refine Below.setCell ?_ (by first | (simp; done) | (simp; omega) | omega) _) | (refine Below.alloc ?_ (by first | (simp; done) | (simp; omega) | omega) _) | (refine below_drewN ?_ _) | (refine Below.drew ?_) | (refine Below.trans ?_ (Below.mono hb (by first | (simp; done) | (simp; omega) | omega)))))))
        clear x0 x1 y0 y1 HS0
        (have X1 := X0.below hb (Nat.le_refl _); have Y1 := Y0.below hb (Nat.le_refl _); have hv1 := hv0.below hb (Nat.le_refl _); have hu1 := hu0.below hb (Nat.le_refl _); have B1 := B0.trans (hb.mono B0.size))
        clear hb
        have c11 := keep_cell B1 (Nat.le_refl _) c1x
        have B1s := B1.size
        go_wp2_with fail
        have hd0 : Below w1.heap.size w1 w1.drew := (Below.refl _ _).drew
        have hsd0 := hd0.size
        obtain ⟨f0_a, f0_b⟩ := ((X1).below (Below.refl w1.heap.size w1) (Nat.le_refl _))
        obtain ⟨f0_c, f0_d⟩ := ((Y1).below (Below.refl w1.heap.size w1) (Nat.le_refl _))
        have f0_e := keep_cell hd0 (Nat.le_refl _) c11
        refine wp_region_K (S := fun w' => w'.cell? ⟨w.heap.size, 0, none⟩ = some (.int .i64 m) ∧ w'.cell? ⟨w.heap.size, 1, none⟩ = some (.slice o t.length c) ∧ w'.cell? ⟨w.heap.size + 1, 0, none⟩ = some (.int .i64 m) ∧ w'.cell? ⟨w.heap.size + 1, 1, none⟩ = some (.slice (some ⟨bx, fx, none⟩) xs.length c1) ∧ w'.cell? ⟨bx, fx + 1, none⟩ = some (.int .i64 (at0 xs 1))) [] (by kernel_rfl) ?_
        have hHeld : (fun w' : World => w'.cell? ⟨w.heap.size, 0, none⟩ = some (.int .i64 m) ∧ w'.cell? ⟨w.heap.size, 1, none⟩ = some (.slice o t.length c) ∧ w'.cell? ⟨w.heap.size + 1, 0, none⟩ = some (.int .i64 m) ∧ w'.cell? ⟨w.heap.size + 1, 1, none⟩ = some (.slice (some ⟨bx, fx, none⟩) xs.length c1) ∧ w'.cell? ⟨bx, fx + 1, none⟩ = some (.int .i64 (at0 xs 1))) w1.drew := by go_keep
        refine' wpAnyK_takeL (i := 0) (v := _) rfl (by kernel_rfl) (by kernel_rfl) (by kernel_rfl) (by kernel_rfl) (fun _ _ _ h => h) (Or.inl ⟨by rfl, ?yT103⟩) hHeld ?rT103
        case yT103 => (intro w' hSw; (try dsimp only at hSw); go_simp; try with_reducible rfl)
        try simp only [List.getElem_toArray, List.getElem_cons_zero, List.getElem_cons_succ, Act.put, List.setIfInBounds_toArray, List.set_cons_zero, List.set_cons_succ]
        refine' wpAnyK_takeL (i := 1) (v := _) rfl (by kernel_rfl) (by kernel_rfl) (by kernel_rfl) (by kernel_rfl) (fun _ _ _ h => h) (Or.inl ⟨by rfl, ?yT104⟩) hHeld ?rT104
        case yT104 => (intro w' hSw; (try dsimp only at hSw); go_simp; try with_reducible rfl)
        try simp only [List.getElem_toArray, List.getElem_cons_zero, List.getElem_cons_succ, Act.put, List.setIfInBounds_toArray, List.set_cons_zero, List.set_cons_succ]
        refine' wpAnyK_takeL (i := 2) (v := _) rfl (by kernel_rfl) (by kernel_rfl) (by kernel_rfl) (by kernel_rfl) (fun _ _ _ h => h) (Or.inl ⟨by rfl, ?yT105⟩) hHeld ?rT105
        case yT105 => (intro w' hSw; (try dsimp only at hSw); go_simp; try with_reducible rfl)
        try simp only [List.getElem_toArray, List.getElem_cons_zero, List.getElem_cons_succ, Act.put, List.setIfInBounds_toArray, List.set_cons_zero, List.set_cons_succ]
        refine' wpAnyK_takeL (i := 3) (v := _) rfl (by kernel_rfl) (by kernel_rfl) (by kernel_rfl) (by kernel_rfl) (fun _ _ _ h => h) (Or.inl ⟨by rfl, ?yT106⟩) hHeld ?rT106
        case yT106 => (intro w' hSw; (try dsimp only at hSw); go_simp; try with_reducible rfl)
        try simp only [List.getElem_toArray, List.getElem_cons_zero, List.getElem_cons_succ, Act.put, List.setIfInBounds_toArray, List.set_cons_zero, List.set_cons_succ]
        refine' wpAnyK_takeL (i := 4) (v := _) rfl (by kernel_rfl) (by kernel_rfl) (by kernel_rfl) (by kernel_rfl) (fun _ _ _ h => h) (Or.inl ⟨by rfl, ?yT107⟩) hHeld ?rT107
        case yT107 => (intro w' hSw; (try dsimp only at hSw); go_simp; try with_reducible rfl)
        try simp only [List.getElem_toArray, List.getElem_cons_zero, List.getElem_cons_succ, Act.put, List.setIfInBounds_toArray, List.set_cons_zero, List.set_cons_succ]
        refine' wpAnyK_takeL (i := 5) (v := _) rfl (by kernel_rfl) (by kernel_rfl) (by kernel_rfl) (by kernel_rfl) (fun _ _ _ h => h) (Or.inl ⟨by rfl, ?yT108⟩) hHeld ?rT108
        case yT108 => (intro w' hSw; (try dsimp only at hSw); go_simp; try with_reducible rfl)
        try simp only [List.getElem_toArray, List.getElem_cons_zero, List.getElem_cons_succ, Act.put, List.setIfInBounds_toArray, List.set_cons_zero, List.set_cons_succ]
        refine' wpAnyK_takeL (i := 6) (v := _) rfl (by kernel_rfl) (by kernel_rfl) (by kernel_rfl) (by kernel_rfl) (fun _ _ _ h => h) (Or.inl ⟨by rfl, ?yT109⟩) hHeld ?rT109
        case yT109 => (intro w' hSw; (try dsimp only at hSw); go_simp; try with_reducible rfl)
        try simp only [List.getElem_toArray, List.getElem_cons_zero, List.getElem_cons_succ, Act.put, List.setIfInBounds_toArray, List.set_cons_zero, List.set_cons_succ]
        refine' wpAnyK_takeL (i := 7) (v := _) rfl (by kernel_rfl) (by kernel_rfl) (by kernel_rfl) (by kernel_rfl) (fun _ _ _ h => h) (Or.inl ⟨by rfl, ?yT110⟩) hHeld ?rT110
        case yT110 => (intro w' hSw; (try dsimp only at hSw); go_simp; try with_reducible rfl)
        try simp only [List.getElem_toArray, List.getElem_cons_zero, List.getElem_cons_succ, Act.put, List.setIfInBounds_toArray, List.set_cons_zero, List.set_cons_succ]
        refine' wpAnyK_takeL (i := 8) (v := _) rfl (by kernel_rfl) (by kernel_rfl) (by kernel_rfl) (by kernel_rfl) (fun _ _ _ h => h) (Or.inl ⟨by rfl, ?yT111⟩) hHeld ?rT111
        case yT111 => (intro w' hSw; (try dsimp only at hSw); go_simp; try with_reducible rfl)
        try simp only [List.getElem_toArray, List.getElem_cons_zero, List.getElem_cons_succ, Act.put, List.setIfInBounds_toArray, List.set_cons_zero, List.set_cons_succ]
        refine' wpAnyK_takeL (i := 9) (v := _) rfl (by kernel_rfl) (by kernel_rfl) (by kernel_rfl) (by kernel_rfl) (fun _ _ _ h => h) (Or.inl ⟨by rfl, ?yT112⟩) hHeld ?rT112
        case yT112 => (intro w' hSw; (try dsimp only at hSw); go_simp; try with_reducible rfl)
        try simp only [List.getElem_toArray, List.getElem_cons_zero, List.getElem_cons_succ, Act.put, List.setIfInBounds_toArray, List.set_cons_zero, List.set_cons_succ]
        refine' wpAnyK_takeL (i := 10) (v := _) rfl (by kernel_rfl) (by kernel_rfl) (by kernel_rfl) (by kernel_rfl) (fun _ _ _ h => h) (Or.inl ⟨by rfl, ?yT113⟩) hHeld ?rT113
        case yT113 => (intro w' hSw; (try dsimp only at hSw); go_simp; try with_reducible rfl)
        try simp only [List.getElem_toArray, List.getElem_cons_zero, List.getElem_cons_succ, Act.put, List.setIfInBounds_toArray, List.set_cons_zero, List.set_cons_succ]
        refine' wpAnyK_takeL (i := 11) (v := _) rfl (by kernel_rfl) (by kernel_rfl) (by kernel_rfl) (by kernel_rfl) (fun _ _ _ h => h) (Or.inl ⟨by rfl, ?yT114⟩) hHeld ?rT114
        case yT114 => (intro w' hSw; (try dsimp only at hSw); go_simp; try with_reducible rfl)
        try simp only [List.getElem_toArray, List.getElem_cons_zero, List.getElem_cons_succ, Act.put, List.setIfInBounds_toArray, List.set_cons_zero, List.set_cons_succ]
        refine' wpAnyK_takeL (i := 13) (v := _) rfl (by kernel_rfl) (by kernel_rfl) (by kernel_rfl) (by kernel_rfl) (fun _ _ _ h => h) (Or.inl ⟨by rfl, ?yT115⟩) hHeld ?rT115
        case yT115 => (intro w' hSw; (try dsimp only at hSw); go_simp; try with_reducible rfl)
        try simp only [List.getElem_toArray, List.getElem_cons_zero, List.getElem_cons_succ, Act.put, List.setIfInBounds_toArray, List.set_cons_zero, List.set_cons_succ]
        refine' wpAnyK_takeL (i := 14) (v := _) rfl (by kernel_rfl) (by kernel_rfl) (by kernel_rfl) (by kernel_rfl) (fun _ _ _ h => h) (Or.inl ⟨by rfl, ?yT116⟩) hHeld ?rT116
        case yT116 => (intro w' hSw; (try dsimp only at hSw); go_simp; try with_reducible rfl)
        try simp only [List.getElem_toArray, List.getElem_cons_zero, List.getElem_cons_succ, Act.put, List.setIfInBounds_toArray, List.set_cons_zero, List.set_cons_succ]
        refine' wpAnyK_takeL (i := 15) (v := _) rfl (by kernel_rfl) (by kernel_rfl) (by kernel_rfl) (by kernel_rfl) (fun _ _ _ h => h) (Or.inl ⟨by rfl, ?yT117⟩) hHeld ?rT117
        case yT117 => (intro w' hSw; (try dsimp only at hSw); go_simp; try with_reducible rfl)
        try simp only [List.getElem_toArray, List.getElem_cons_zero, List.getElem_cons_succ, Act.put, List.setIfInBounds_toArray, List.set_cons_zero, List.set_cons_succ]
        refine' wpAnyK_takeL (i := 16) (v := _) rfl (by kernel_rfl) (by kernel_rfl) (by kernel_rfl) (by kernel_rfl) (fun _ _ _ h => h) (Or.inl ⟨by rfl, ?yT118⟩) hHeld ?rT118
        case yT118 => (intro w' hSw; (try dsimp only at hSw); go_simp; try with_reducible rfl)
        try simp only [List.getElem_toArray, List.getElem_cons_zero, List.getElem_cons_succ, Act.put, List.setIfInBounds_toArray, List.set_cons_zero, List.set_cons_succ]
        refine wpAnyK_oneL (i := 12) rfl (by kernel_rfl) (fun K hK => ?_)
        go_simp
        go_at_call 51
        refine (l03After_c m t.length _ _ xs t _ ((hu1).below (by (repeat (first | exact Below.refl _ _ | (refine Below.setCell ?_ (by first | (simp; done) | (simp; omega) | omega) _) | (refine Below.alloc ?_ (by first | (simp; done) | (simp; omega) | omega) _) | (refine below_drewN ?_ _) | (refine Below.drew ?_)))) (Nat.le_refl _)) ((hv1).below (by (repeat (first | exact Below.refl _ _ | (refine Below.setCell ?_ (by first | (simp; done) | (simp; omega) | omega) _) | (refine Below.alloc ?_ (by first | (simp; done) | (simp; omega) | omega) _) | (refine below_drewN ?_ _) | (refine Below.drew ?_)))) (Nat.le_refl _)) (by omega) (by omega) (by omega) (by omega) (by rw [HLX.out]; omega) hx HT.out).mono ?_
        rintro e wd1 ⟨vl, rfl, hod1, hbd1⟩
        obtain ⟨ol, cl, rfl⟩ := hod1.shapeN (n := t.length) HTh.out
        have hd1 : Below w1.heap.size w1 wd1 := (by (repeat (first | exact Below.refl _ _ | (refine Below.setCell ?_ (by first | (simp; done) | (simp; omega) | omega) _) | (refine Below.alloc ?_ (by first | (simp; done) | (simp; omega) | omega) _) | (refine below_drewN ?_ _) | (refine Below.drew ?_) | (refine Below.trans ?_ (Below.mono hbd1 (by first | (simp; done) | (simp; omega) | omega))))))
        have hsd1 := hd1.size
        have hsz1_ := hbd1.size
        (try simp at hsz1_)
        obtain ⟨f1_a, f1_b⟩ := ((X1).below hd1 (Nat.le_refl _))
        obtain ⟨f1_c, f1_d⟩ := ((Y1).below hd1 (Nat.le_refl _))
        have f1_e := keep_cell hd1 (Nat.le_refl _) c11
        go_wp2_with fail
        clear hHeld
        have hHeld : (fun w' : World => w'.cell? ⟨w.heap.size, 0, none⟩ = some (.int .i64 m) ∧ w'.cell? ⟨w.heap.size, 1, none⟩ = some (.slice o t.length c) ∧ w'.cell? ⟨w.heap.size + 1, 0, none⟩ = some (.int .i64 m) ∧ w'.cell? ⟨w.heap.size + 1, 1, none⟩ = some (.slice (some ⟨bx, fx, none⟩) xs.length c1) ∧ w'.cell? ⟨bx, fx + 1, none⟩ = some (.int .i64 (at0 xs 1))) wd1 := by go_keep
        refine hK.out _ _ (fun _ => hHeld) ?_
        clear hK K
        try simp only [List.getElem_toArray, List.getElem_cons_zero, List.getElem_cons_succ, Act.put, List.setIfInBounds_toArray, List.set_cons_zero, List.set_cons_succ]
        refine wpAnyK_oneL (i := 17) rfl (by kernel_rfl) (fun K hK => ?_)
        go_simp
        go_at_call 52
        refine (l05Sum_c m t.length _ xs _ ((hu1).below (by (repeat (first | exact Below.refl _ _ | (refine Below.setCell ?_ (by first | (simp; done) | (simp; omega) | omega) _) | (refine Below.alloc ?_ (by first | (simp; done) | (simp; omega) | omega) _) | (refine below_drewN ?_ _) | (refine Below.drew ?_) | (refine Below.trans ?_ (Below.mono hbd1 (by first | (simp; done) | (simp; omega) | omega)))))) (Nat.le_refl _)) HLX.out (by omega) (by omega)).mono ?_
        rintro e wd2 ⟨va, rfl, hod2, hbd2⟩
        obtain ⟨oa, ca, rfl⟩ := hod2.shapeN (n := t.length) HTw.out.1
        have hd2 : Below w1.heap.size w1 wd2 := (by (repeat (first | exact Below.refl _ _ | (refine Below.setCell ?_ (by first | (simp; done) | (simp; omega) | omega) _) | (refine Below.alloc ?_ (by first | (simp; done) | (simp; omega) | omega) _) | (refine below_drewN ?_ _) | (refine Below.drew ?_) | (refine Below.trans ?_ (Below.mono hbd1 (by first | (simp; done) | (simp; omega) | omega))) | (refine Below.trans ?_ (Below.mono hbd2 (by first | (simp; done) | (simp; omega) | omega))))))
        have hsd2 := hd2.size
        have hsz2_ := hbd2.size
        (try simp at hsz2_)
        obtain ⟨f2_a, f2_b⟩ := ((X1).below hd2 (Nat.le_refl _))
        obtain ⟨f2_c, f2_d⟩ := ((Y1).below hd2 (Nat.le_refl _))
        have f2_e := keep_cell hd2 (Nat.le_refl _) c11
        go_wp2_with fail
        clear hHeld
        have hHeld : (fun w' : World => w'.cell? ⟨w.heap.size, 0, none⟩ = some (.int .i64 m) ∧ w'.cell? ⟨w.heap.size, 1, none⟩ = some (.slice o t.length c) ∧ w'.cell? ⟨w.heap.size + 1, 0, none⟩ = some (.int .i64 m) ∧ w'.cell? ⟨w.heap.size + 1, 1, none⟩ = some (.slice (some ⟨bx, fx, none⟩) xs.length c1) ∧ w'.cell? ⟨bx, fx + 1, none⟩ = some (.int .i64 (at0 xs 1))) wd2 := by go_keep
        refine hK.out _ _ (fun _ => hHeld) ?_
        clear hK K
        try simp only [List.getElem_toArray, List.getElem_cons_zero, List.getElem_cons_succ, Act.put, List.setIfInBounds_toArray, List.set_cons_zero, List.set_cons_succ]
        refine wpAnyK_oneL (i := 18) rfl (by kernel_rfl) (fun K hK => ?_)
        go_simp
        go_at_call 50
        refine (l01Same2_c _ _ (hornT m t.length t xs) (twoT t.length xs) _ ((hod1.below (by (repeat (first | exact Below.refl _ _ | (refine Below.setCell ?_ (by first | (simp; done) | (simp; omega) | omega) _) | (refine Below.alloc ?_ (by first | (simp; done) | (simp; omega) | omega) _) | (refine below_drewN ?_ _) | (refine Below.drew ?_) | (refine Below.trans ?_ (Below.mono hbd2 (by first | (simp; done) | (simp; omega) | omega)))))))).rd ((hod2.below (by (repeat (first | exact Below.refl _ _ | (refine Below.setCell ?_ (by first | (simp; done) | (simp; omega) | omega) _) | (refine Below.alloc ?_ (by first | (simp; done) | (simp; omega) | omega) _) | (refine below_drewN ?_ _) | (refine Below.drew ?_)))))).rd).mono ?_
        rintro e wd3 ⟨hq, hbe⟩
        rw [he] at hq; subst hq; have hbd3 : Below wd2.heap.size wd2 wd3 := (by obtain ⟨q, rfl⟩ := hbe; exact below_drewN (Below.refl _ _) _); clear hbe
        have hd3 : Below w1.heap.size w1 wd3 := (by (repeat (first | exact Below.refl _ _ | (refine Below.setCell ?_ (by first | (simp; done) | (simp; omega) | omega) _) | (refine Below.alloc ?_ (by first | (simp; done) | (simp; omega) | omega) _) | (refine below_drewN ?_ _) | (refine Below.drew ?_) | (refine Below.trans ?_ (Below.mono hbd1 (by first | (simp; done) | (simp; omega) | omega))) | (refine Below.trans ?_ (Below.mono hbd2 (by first | (simp; done) | (simp; omega) | omega))) | (refine Below.trans ?_ (Below.mono hbd3 (by first | (simp; done) | (simp; omega) | omega))))))
        have hsd3 := hd3.size
        have hsz3_ := hbd3.size
        (try simp at hsz3_)
        obtain ⟨f3_a, f3_b⟩ := ((X1).below hd3 (Nat.le_refl _))
        obtain ⟨f3_c, f3_d⟩ := ((Y1).below hd3 (Nat.le_refl _))
        have f3_e := keep_cell hd3 (Nat.le_refl _) c11
        go_wp2_with fail
        clear hHeld
        have hHeld : (fun w' : World => w'.cell? ⟨w.heap.size, 0, none⟩ = some (.int .i64 m) ∧ w'.cell? ⟨w.heap.size, 1, none⟩ = some (.slice o t.length c) ∧ w'.cell? ⟨w.heap.size + 1, 0, none⟩ = some (.int .i64 m) ∧ w'.cell? ⟨w.heap.size + 1, 1, none⟩ = some (.slice (some ⟨bx, fx, none⟩) xs.length c1) ∧ w'.cell? ⟨bx, fx + 1, none⟩ = some (.int .i64 (at0 xs 1))) wd3 := by go_keep
        refine hK.out _ _ (fun _ => hHeld) ?_
        clear hK K
        try simp only [List.getElem_toArray, List.getElem_cons_zero, List.getElem_cons_succ, Act.put, List.setIfInBounds_toArray, List.set_cons_zero, List.set_cons_succ]
        refine wpAnyK_oneL (i := 19) rfl (by kernel_rfl) (fun K hK => ?_)
        go_simp
        (try go_wp2_with fail)
        refine hK.out _ _ (fun _ => hHeld) ?_
        clear hK K
        try simp only [List.getElem_toArray, List.getElem_cons_zero, List.getElem_cons_succ, Act.put, List.setIfInBounds_toArray, List.set_cons_zero, List.set_cons_succ]
        refine wpAnyK_oneL (i := 20) rfl (by kernel_rfl) (fun K hK => ?_)
        go_simp
        (try go_wp2_with fail)
        refine hK.out _ _ (fun _ => hHeld) ?_
        clear hK K
        try simp only [List.getElem_toArray, List.getElem_cons_zero, List.getElem_cons_succ, Act.put, List.setIfInBounds_toArray, List.set_cons_zero, List.set_cons_succ]
        refine wpAnyK_oneL (i := 21) rfl (by kernel_rfl) (fun K hK => ?_)
        go_simp
        (try go_wp2_with fail)
        refine hK.out _ _ (fun _ => hHeld) ?_
        clear hK K
        try simp only [List.getElem_toArray, List.getElem_cons_zero, List.getElem_cons_succ, Act.put, List.setIfInBounds_toArray, List.set_cons_zero, List.set_cons_succ]
        refine wpAnyK_done (by kernel_rfl) ?_ _
        have B2 := B1.trans (hd3.mono B1s)
        go_wp2
        go_ret2
        exact ⟨rfl, B2⟩
  · have hR : isLogR m t m1 xs = ⟨false, curC m t [(m1, xs)]⟩ := by simp [isLogR, hc]
    rw [hR]
    clear hR
    obtain ⟨cc, hcc0⟩ : ∃ cc, curC m t [(m1, xs)] = cc := ⟨_, rfl⟩
    rw [hcc0] at hc ⊢
    have HC := Lib.hid hcc0
    clear hcc0
    have hcc : (cc != 0) = true := by simpa using hc
    have hcd : (cc == 0) = false := by simpa using hc
    clear hc
    go_enter Try.func14, Try.ntmps14
    go_wp2_with fail
    (have X0 := ((RB2.mk1 w  (.int .i64 m) (.slice o t.length c) 32).1).below (w' := ((w.alloc (.cells #[.int .i64 m, .slice o t.length c] 32)).alloc (.cells #[.int .i64 m1, .slice o1 xs.length c1] 34))) (by (repeat (first | exact Below.refl _ _ | (refine Below.setCell ?_ (by first | (simp; done) | (simp; omega) | omega) _) | (refine Below.alloc ?_ (by first | (simp; done) | (simp; omega) | omega) _) | (refine below_drewN ?_ _) | (refine Below.drew ?_)))) (Nat.le_refl _); have Y0 := ((RB2.mk2 w (.cells #[.int .i64 m, .slice o t.length c] 32) (.int .i64 m1) (.slice o1 xs.length c1) 34).1).below (w' := ((w.alloc (.cells #[.int .i64 m, .slice o t.length c] 32)).alloc (.cells #[.int .i64 m1, .slice o1 xs.length c1] 34))) (by (repeat (first | exact Below.refl _ _ | (refine Below.setCell ?_ (by first | (simp; done) | (simp; omega) | omega) _) | (refine Below.alloc ?_ (by first | (simp; done) | (simp; omega) | omega) _) | (refine below_drewN ?_ _) | (refine Below.drew ?_)))) (Nat.le_refl _); have B0 : Below w.heap.size w ((w.alloc (.cells #[.int .i64 m, .slice o t.length c] 32)).alloc (.cells #[.int .i64 m1, .slice o1 xs.length c1] 34)) := (by (repeat (first | exact Below.refl _ _ | (refine Below.setCell ?_ (by first | (simp; done) | (simp; omega) | omega) _) | (refine Below.alloc ?_ (by first | (simp; done) | (simp; omega) | omega) _) | (refine below_drewN ?_ _) | (refine Below.drew ?_)))); have hv0 := hv.below (w' := ((w.alloc (.cells #[.int .i64 m, .slice o t.length c] 32)).alloc (.cells #[.int .i64 m1, .slice o1 xs.length c1] 34))) (by (repeat (first | exact Below.refl _ _ | (refine Below.setCell ?_ (by first | (simp; done) | (simp; omega) | omega) _) | (refine Below.alloc ?_ (by first | (simp; done) | (simp; omega) | omega) _) | (refine below_drewN ?_ _) | (refine Below.drew ?_)))) (Nat.le_refl _); have hu0 := hu.below (w' := ((w.alloc (.cells #[.int .i64 m, .slice o t.length c] 32)).alloc (.cells #[.int .i64 m1, .slice o1 xs.length c1] 34))) (by (repeat (first | exact Below.refl _ _ | (refine Below.setCell ?_ (by first | (simp; done) | (simp; omega) | omega) _) | (refine Below.alloc ?_ (by first | (simp; done) | (simp; omega) | omega) _) | (refine below_drewN ?_ _) | (refine Below.drew ?_)))) (Nat.le_refl _); have HS0 := Lib.hid (show ((w.alloc (.cells #[.int .i64 m, .slice o t.length c] 32)).alloc (.cells #[.int .i64 m1, .slice o1 xs.length c1] 34)).heap.size = w.heap.size + 1 + 1 by simp); generalize (w.alloc (.cells #[.int .i64 m, .slice o t.length c] 32)).alloc (.cells #[.int .i64 m1, .slice o1 xs.length c1] 34) = w0 at X0 Y0 B0 hv0 hu0 HS0 ⊢)
    obtain ⟨x0, x1⟩ := id X0
    obtain ⟨y0, y1⟩ := id Y0
    go_wp2_with fail
    have hzb : Below w0.heap.size w0 (w0.alloc (.cells #[.int .i64 m1, .slice o1 xs.length c1] 34)) := (by (repeat (first | exact Below.refl _ _ | (refine Below.setCell ?_ (by first | (simp; done) | (simp; omega) | omega) _) | (refine Below.alloc ?_ (by first | (simp; done) | (simp; omega) | omega) _) | (refine below_drewN ?_ _) | (refine Below.drew ?_))))
    refine (l04Code_c m _ _ t [(m1, xs)] _ (hv0.below hzb (Nat.le_refl _)) (RdM.lit1c w0 HS0.out m1 _ xs hu0)).mono ?_
    clear hzb
    rw [HC.out]
    rintro e w1 ⟨rfl, hb⟩
    have hb := (show Below w0.heap.size w0 w1 from (by (repeat (first | exact Below.refl _ _ | (refine Below.setCell ?_ (by first | (simp; done) | (simp; omega) | omega) _) | (refine Below.alloc ?_ (by first | (simp; done) | (simp; omega) | omega) _) | (refine below_drewN ?_ _) | (refine Below.drew ?_) | (refine Below.trans ?_ (Below.mono hb (by first | (simp; done) | (simp; omega) | omega)))))))
    clear x0 x1 y0 y1 HS0
    (have X1 := X0.below hb (Nat.le_refl _); have B1 := B0.trans (hb.mono B0.size))
    clear hb
    go_wp2
    go_ret2
    exact ⟨rfl, B1⟩

end Go.Proofs.Ytdnkadlondediaa
