/- Lemmas. -/
import Derived.Test.YtfpphfjlpgefaaaGreatQLM10
import Derived.Test.YtfpphfjlpgefaaaGreatQLM8
import Derived.Test.YtfpphfjlpgefaaaGreatQLM7
import Derived.Test.YtfpphfjlpgefaaaGreatQLG2
set_option maxHeartbeats 4000000
set_option maxRecDepth 100000
set_option linter.unusedSimpArgs false
set_option linter.unusedVariables false
namespace Go.Proofs.YtfpphfjlpgefaaaGreat
open Go.RowKit

theorem RB2.mk4 (w : World) (o o' o'' : Obj) (x y : Value) (t : TypeId) : RB2 ((((w.alloc o).alloc o').alloc o'').alloc (.cells #[x, y] t)) (w.heap.size + 3) x y := by
 have := RB2.mk1 (((w.alloc o).alloc o').alloc o'') x y t
 simpa using this

def Cel2 (w : World) (b f : Nat) (x y : Value) : Prop := w.cell? ⟨b, f, none⟩ = some x ∧ w.cell? ⟨b, f + 1, none⟩ = some y
theorem Cel2.below {B : Nat} {w w' : World} {b f : Nat} {x y : Value} (h : Cel2 w b f x y) (hb : Below B w w') (hB : w.heap.size ≤ B) : Cel2 w' b f x y := ⟨keep_cell hb hB h.1, keep_cell hb hB h.2⟩

theorem curvesP_c (m m1 : Int) (n : Nat) (v u u' : Value) (t : List (List Int)) (xs ys : List Int) (w : World) (hv : RdT w v t) (hu : RdI w u xs) (hu' : RdI w u' ys) (hlx : xs.length = n) (hly : ys.length = n) (h1 : 1 ≤ n) (hn : n ≤ 1000) (hm : 2 ≤ m) (hm' : m ≤ 10000)
  (ht : PlaT m n t) (hx : ∀ x ∈ xs, 0 ≤ x ∧ x < m) (hy : ∀ x ∈ ys, 0 ≤ x ∧ x < m) :
  Calls Tryz.prog 45 #[.agg #[.int .i64 m1, v], .agg #[.int .i64 m, u], .agg #[.int .i64 m, u']] w fun e w' => SVEnd w w' m (putL m n t xs ys) e := by
 subst hlx
 obtain ⟨o, c, rfl, hmt, -⟩ := id hv
 obtain ⟨o1, c1, rfl, hmx, -⟩ := id hu
 obtain ⟨o2, c2, rfl, hmy, -⟩ := id hu'
 have hv' : RdT w (.slice o xs.length c) t := by rw [ht.1] at hv; exact hv
 have hu2 : RdI w (.slice o2 xs.length c2) ys := by rw [hly] at hu'; exact hu'
 rw [ht.1] at hmt ⊢
 rw [hly] at hmy ⊢
 have HLY := Lib.hid hly
 have HT := Lib.hid ht
 clear hly ht hv hu'
 unfold maxLen at hmt hmx hmy
 go_enter Tryz.func45, Tryz.ntmps45
 go_wp2_with fail
 (have X0 := ((RB2.mk1 w  (.int .i64 m1) (.slice o xs.length c) 26).1).below (w' := ((((w.alloc (.cells #[.int .i64 m1, .slice o xs.length c] 26)).alloc (.cells #[.int .i64 m, .slice o1 xs.length c1] 34)).alloc (.cells #[.int .i64 m, .slice o2 xs.length c2] 34)).alloc (.cells #[.int .i64 0, .slice none 0 0] 34))) bZ (nl _); have Y0 := ((RB2.mk2 w (.cells #[.int .i64 m1, .slice o xs.length c] 26) (.int .i64 m) (.slice o1 xs.length c1) 34).1).below (w' := ((((w.alloc (.cells #[.int .i64 m1, .slice o xs.length c] 26)).alloc (.cells #[.int .i64 m, .slice o1 xs.length c1] 34)).alloc (.cells #[.int .i64 m, .slice o2 xs.length c2] 34)).alloc (.cells #[.int .i64 0, .slice none 0 0] 34))) bZ (nl _); have Z0 := ((RB2.mk3 w (.cells #[.int .i64 m1, .slice o xs.length c] 26) (.cells #[.int .i64 m, .slice o1 xs.length c1] 34) (.int .i64 m) (.slice o2 xs.length c2) 34).1).below (w' := ((((w.alloc (.cells #[.int .i64 m1, .slice o xs.length c] 26)).alloc (.cells #[.int .i64 m, .slice o1 xs.length c1] 34)).alloc (.cells #[.int .i64 m, .slice o2 xs.length c2] 34)).alloc (.cells #[.int .i64 0, .slice none 0 0] 34))) bZ (nl _); have R0 := ((RB2.mk4 w (.cells #[.int .i64 m1, .slice o xs.length c] 26) (.cells #[.int .i64 m, .slice o1 xs.length c1] 34) (.cells #[.int .i64 m, .slice o2 xs.length c2] 34) (.int .i64 0) (.slice none 0 0) 34)).below (w' := ((((w.alloc (.cells #[.int .i64 m1, .slice o xs.length c] 26)).alloc (.cells #[.int .i64 m, .slice o1 xs.length c1] 34)).alloc (.cells #[.int .i64 m, .slice o2 xs.length c2] 34)).alloc (.cells #[.int .i64 0, .slice none 0 0] 34))) bZ (nl _); have B0 : Below w.heap.size w ((((w.alloc (.cells #[.int .i64 m1, .slice o xs.length c] 26)).alloc (.cells #[.int .i64 m, .slice o1 xs.length c1] 34)).alloc (.cells #[.int .i64 m, .slice o2 xs.length c2] 34)).alloc (.cells #[.int .i64 0, .slice none 0 0] 34)) := bZ; have hv'0 := hv'.below (w' := ((((w.alloc (.cells #[.int .i64 m1, .slice o xs.length c] 26)).alloc (.cells #[.int .i64 m, .slice o1 xs.length c1] 34)).alloc (.cells #[.int .i64 m, .slice o2 xs.length c2] 34)).alloc (.cells #[.int .i64 0, .slice none 0 0] 34))) bZ (nl _); have hu0 := hu.below (w' := ((((w.alloc (.cells #[.int .i64 m1, .slice o xs.length c] 26)).alloc (.cells #[.int .i64 m, .slice o1 xs.length c1] 34)).alloc (.cells #[.int .i64 m, .slice o2 xs.length c2] 34)).alloc (.cells #[.int .i64 0, .slice none 0 0] 34))) bZ (nl _); have hu20 := hu2.below (w' := ((((w.alloc (.cells #[.int .i64 m1, .slice o xs.length c] 26)).alloc (.cells #[.int .i64 m, .slice o1 xs.length c1] 34)).alloc (.cells #[.int .i64 m, .slice o2 xs.length c2] 34)).alloc (.cells #[.int .i64 0, .slice none 0 0] 34))) bZ (nl _); generalize (((w.alloc (.cells #[.int .i64 m1, .slice o xs.length c] 26)).alloc (.cells #[.int .i64 m, .slice o1 xs.length c1] 34)).alloc (.cells #[.int .i64 m, .slice o2 xs.length c2] 34)).alloc (.cells #[.int .i64 0, .slice none 0 0] 34) = w0 at X0 Y0 Z0 R0 B0 hv'0 hu0 hu20 ⊢)
 have hzl : w.heap.size + 3 < w0.heap.size := R0.1.lt
 go_cut [7, 8, 9] (fun sb sp sq u => ∃ (wz : World) (b : Nat) (oz : Option Addr) (cz : Nat) (op : Option Addr) (cp : Nat) (oq : Option Addr) (cq : Nat), wz = u ∧ sb = .pointer (some ⟨b, 0, none⟩) ∧ sp = .slice op xs.length cp ∧ sq = .slice oq xs.length cq ∧ w0.heap.size ≤ b ∧ RB2 u b (.int .i64 m) (.slice oz xs.length cz) ∧ OwI u w0.heap.size (.slice oz xs.length cz) (constL m 0 xs.length) ∧ (∀ k, (Value.slice oz xs.length cz).ownBlock = some k → k ≠ b) ∧ (∃ lo hi, Rds lo hi u (fun x => RdLS x (.slice op xs.length cp) m (powsL m xs.length xs xs.length)) ∧ w0.heap.size ≤ lo ∧ (b < lo ∨ hi ≤ b)) ∧ (∃ lo hi, Rds lo hi u (fun x => RdLS x (.slice oq xs.length cq) m (powsL m xs.length ys xs.length)) ∧ w0.heap.size ≤ lo ∧ (b < lo ∨ hi ≤ b)) ∧ Below w0.heap.size w0 u)
 case first =>
  have hd0 : Below w0.heap.size w0 w0.drew := (Below.refl _ _).drew
  have hsd0 := hd0.size
  have hlb_Y0 := Y0.lt
  have hlb_Z0 := Z0.lt
  obtain ⟨q0_Y0_0, q0_Y0_1⟩ := Y0.below (Below.refl w0.heap.size w0) (nl _)
  obtain ⟨q0_Z0_0, q0_Z0_1⟩ := Z0.below (Below.refl w0.heap.size w0) (nl _)
  have hne0_Y0 : w0.heap.size ≠ w.heap.size + 1 := by omega
  have hne0_Z0 : w0.heap.size ≠ w.heap.size + 2 := by omega
  go_region_held3 (fun w' => w'.cell? ⟨w.heap.size + 1, 0, none⟩ = some (.int .i64 m) ∧ w'.cell? ⟨w.heap.size + 1, 1, none⟩ = some (.slice o1 xs.length c1) ∧ w'.cell? ⟨w.heap.size + 2, 0, none⟩ = some (.int .i64 m) ∧ w'.cell? ⟨w.heap.size + 2, 1, none⟩ = some (.slice o2 xs.length c2)) (go_keep)
   (first
    | (go_at_call 87; refine (constant_c m 0 _ xs _ ((hu0).below bZ (nl _)) h1 (by omega) hm (by omega) (by omega) (by omega)).mono ?_; rintro e wd1 ⟨vz1, rfl, hod1, hbd1⟩; obtain ⟨oz, cz, rfl⟩ := hod1.shapeN (n := xs.length) (constL_len _ _ _); have hd1 : Below w0.heap.size w0 wd1 := (by (repeat (first | exact bR _ _ | (refine bS ?_ _) | (refine bA ?_ _) | (refine bN ?_ _) | (refine bD ?_) | (refine bT ?_ hbd1)))); have hsd1 := hd1.size; have hsz1_ := hbd1.size; (try simp at hsz1_); obtain ⟨q1_Y0_0, q1_Y0_1⟩ := Y0.below hd1 (nl _); obtain ⟨q1_Z0_0, q1_Z0_1⟩ := Z0.below hd1 (nl _); have hne1_Y0 : wd1.heap.size ≠ w.heap.size + 1 := (by omega); have hne1_Z0 : wd1.heap.size ≠ w.heap.size + 2 := (by omega); (try (have RZ := RZ.below hbd1 (nl _))); (try (have RZ := (show RB2 (w0.alloc (.cells #[.int .i64 0, .slice none 0 0] 34)).drew w0.heap.size (.int .i64 0) (.slice none 0 0) from RB2.mk1 w0 (.int .i64 0) (.slice none 0 0) _).below hbd1 (nl _))); (try (obtain ⟨⟨z1_0, z1_1⟩, zf1⟩ := id RZ)))
    | (go_at_call_of 88 (Value.agg #[.int .i64 m, .slice o1 xs.length c1]); refine (powersS_c m xs.length _ xs _ ((hu0).below (by (repeat (first | exact bR _ _ | (refine bS ?_ _) | (refine bA ?_ _) | (refine bN ?_ _) | (refine bD ?_) | (refine bT ?_ hbd1)))) (nl _)) rfl h1 hn hm (by omega) hx).mono ?_; rintro e wd2 ⟨vp, rfl, hol2, hbd2⟩; obtain ⟨op, cp, rfl⟩ := hol2.shapeN (n := xs.length) (powsL_len _ _ _ _); have hrp := hol2.rds; clear hol2; have hd2 : Below w0.heap.size w0 wd2 := (by (repeat (first | exact bR _ _ | (refine bS ?_ _) | (refine bA ?_ _) | (refine bN ?_ _) | (refine bD ?_) | (refine bT ?_ hbd1) | (refine bT ?_ hbd2)))); have hsd2 := hd2.size; have hsz2_ := hbd2.size; (try simp at hsz2_); obtain ⟨q2_Y0_0, q2_Y0_1⟩ := Y0.below hd2 (nl _); obtain ⟨q2_Z0_0, q2_Z0_1⟩ := Z0.below hd2 (nl _); have hne2_Y0 : wd2.heap.size ≠ w.heap.size + 1 := (by omega); have hne2_Z0 : wd2.heap.size ≠ w.heap.size + 2 := (by omega); (try (have RZ := RZ.below hbd2 (nl _))); (try (have RZ := (show RB2 (wd1.alloc (.cells #[.int .i64 0, .slice none 0 0] 34)) wd1.heap.size (.int .i64 0) (.slice none 0 0) from RB2.mk1 wd1 (.int .i64 0) (.slice none 0 0) _).below hbd2 (nl _))); (try (obtain ⟨⟨z2_0, z2_1⟩, zf2⟩ := id RZ)))
    | (go_at_call_of 88 (Value.agg #[.int .i64 m, .slice o2 xs.length c2]); refine (powersS_c m xs.length _ ys _ ((hu20).below (by (repeat (first | exact bR _ _ | (refine bS ?_ _) | (refine bA ?_ _) | (refine bN ?_ _) | (refine bD ?_) | (refine bT ?_ hbd1) | (refine bT ?_ hbd2)))) (nl _)) HLY.out h1 hn hm (by omega) hy).mono ?_; rintro e wd3 ⟨vq, rfl, hol3, hbd3⟩; obtain ⟨oq, cq, rfl⟩ := hol3.shapeN (n := xs.length) (powsL_len _ _ _ _); have hrq := hol3.rds; clear hol3; have hd3 : Below w0.heap.size w0 wd3 := (by (repeat (first | exact bR _ _ | (refine bS ?_ _) | (refine bA ?_ _) | (refine bN ?_ _) | (refine bD ?_) | (refine bT ?_ hbd1) | (refine bT ?_ hbd2) | (refine bT ?_ hbd3)))); have hsd3 := hd3.size; have hsz3_ := hbd3.size; (try simp at hsz3_); obtain ⟨q3_Y0_0, q3_Y0_1⟩ := Y0.below hd3 (nl _); obtain ⟨q3_Z0_0, q3_Z0_1⟩ := Z0.below hd3 (nl _); have hne3_Y0 : wd3.heap.size ≠ w.heap.size + 1 := (by omega); have hne3_Z0 : wd3.heap.size ≠ w.heap.size + 2 := (by omega); (try (have RZ := RZ.below hbd3 (nl _))); (try (have RZ := (show RB2 (wd2.alloc (.cells #[.int .i64 0, .slice none 0 0] 34)) wd2.heap.size (.int .i64 0) (.slice none 0 0) from RB2.mk1 wd2 (.int .i64 0) (.slice none 0 0) _).below hbd3 (nl _))); (try (obtain ⟨⟨z3_0, z3_1⟩, zf3⟩ := id RZ))))
  all_goals
   go_wp2_with fail
   go_meet
   have hL := hod1.lt
   refine ⟨_, _, oz, cz, op, cp, oq, cq, rfl, rfl, rfl, rfl, ?_, ?_, ?_, ?_, ?_, ?_, ?_⟩
   ·first | omega | (simp; done) | (simp; omega)
   ·first | exact RB2.mk1 _ _ _ _ | exact RB2.put RZ _ _
   ·first | exact ((hod1.below (by (repeat (first | exact bR _ _ | (refine bS ?_ _) | (refine bA ?_ _) | (refine bN ?_ _) | (refine bD ?_) | (refine bT ?_ hbd2) | (refine bT ?_ hbd3))))).alloc _).mono (by first | (simp; done) | (simp; omega) | omega) | exact (((hod1.below (by (repeat (first | exact bR _ _ | (refine bS ?_ _) | (refine bA ?_ _) | (refine bN ?_ _) | (refine bD ?_) | (refine bT ?_ hbd2) | (refine bT ?_ hbd3))))).low (by first | (simp; done) | (simp; omega) | omega) _).low (by first | (simp; done) | (simp; omega) | omega) _).mono (by first | (simp; done) | (simp; omega) | omega) | exact (((hod1.below (by (repeat (first | exact bR _ _ | (refine bS ?_ _) | (refine bA ?_ _) | (refine bN ?_ _) | (refine bD ?_) | (refine bT ?_ hbd2) | (refine bT ?_ hbd3))))).ne (fun k hk => by have hq := hod1.lt k hk; first | omega | (simp at hq; omega)) _).ne (fun k hk => by have hq := hod1.lt k hk; first | omega | (simp at hq; omega)) _).mono (by first | (simp; done) | (simp; omega) | omega)
   ·intro k hk; have hq := hL k hk; first | omega | (simp at hq; omega) | (have hq := hod1.lt k hk; first | omega | (simp at hq; omega))
   ·first | exact ⟨_, _, (((hrp.below (by (repeat (first | exact bR _ _ | (refine bS ?_ _) | (refine bA ?_ _) | (refine bN ?_ _) | (refine bD ?_) | (refine bT ?_ hbd3))))).put (by first | (simp; done) | (simp; omega) | omega) 0 _).put (by first | (simp; done) | (simp; omega) | omega) 1 _), (by first | (simp; done) | (simp; omega) | omega), (by first | (simp; done) | (simp; omega) | omega)⟩ | exact ⟨_, _, hrp.below (by (repeat (first | exact bR _ _ | (refine bS ?_ _) | (refine bA ?_ _) | (refine bN ?_ _) | (refine bD ?_) | (refine bT ?_ hbd3)))), (by first | (simp; done) | (simp; omega) | omega), (by first | (simp; done) | (simp; omega) | omega)⟩
   ·first | exact ⟨_, _, (((hrq.below bZ).put (by first | (simp; done) | (simp; omega) | omega) 0 _).put (by first | (simp; done) | (simp; omega) | omega) 1 _), (by first | (simp; done) | (simp; omega) | omega), (by first | (simp; done) | (simp; omega) | omega)⟩ | exact ⟨_, _, hrq.below bZ, (by first | (simp; done) | (simp; omega) | omega), (by first | (simp; done) | (simp; omega) | omega)⟩
   ·(repeat (first | exact bR _ _ | (refine bS ?_ _) | (refine bA ?_ _) | (refine bN ?_ _) | (refine bD ?_) | (refine bT ?_ hbd1) | (refine bT ?_ hbd2) | (refine bT ?_ hbd3)))
 case rest =>
 obtain ⟨w1, b, oz, cz, op, cp, oq, cq, rfl, rfl, rfl, rfl, hbW, O, how, hneb, HP, HQ, hb⟩ := hcut
 obtain ⟨lp, hp, hP, hlp, hbp⟩ := HP
 obtain ⟨lq, hq, hQ, hlq, hbq⟩ := HQ
 clear hneb
 (have X1 := X0.below hb (nl _); have R1 := R0.below hb (nl _); have B1 := B0.trans (hb.mono B0.size))
 rw [constL_0, putTo_0 m xs.length (atT t) (powL m xs.length xs) (powL m xs.length ys)] at how
 have B1s := B1.size
 have hb1s := hb.size
 have lO := O.1.lt
 obtain ⟨bt, ft, rfl, -⟩ := hv'.rows (by have := HT.out.1; omega)
 obtain ⟨x0, x1⟩ := id X1
 go_wp2_with fail
 clear x0 x1
 go_loopw [23] (fun s wr => ∃ (i : Nat) (ov : Option Addr) (cv : Nat), i ≤ xs.length ∧ s = .int .i64 i ∧ OwI wr w0.heap.size (.slice ov xs.length cv) (putTo m xs.length (atT t) (powL m xs.length xs) (powL m xs.length ys) i 0) ∧ RB2 wr b (.int .i64 m) (.slice ov xs.length cv) ∧ w1.grownBy wr (some b)) (fun i _ => xs.length - (intOf i).toNat)
 case atStart => exact ⟨0, oz, cz, Nat.zero_le _, rfl, how, O, World.grownBy.refl _ _⟩
 case round =>
  obtain ⟨i, ov, cv, hi', rfl, hO, OO, hg⟩ := hrel
  by_cases hlt : i < xs.length
  ·obtain ⟨r1, hr1, hl1, hj1⟩ := HT.out.row hlt
   obtain ⟨p1, q1, cx0, rx0⟩ := hv'.row hr1
   rw [hl1] at cx0 rx0
   obtain ⟨b1, f1, rfl, -⟩ := rx0.cells (by omega)
   have Br := below_gr B1 hg (by omega) B1s
   have cx := keep_cell Br (nl _) cx0
   have i0 : (0 : Int) ≤ (i : Int) := by omega
   have i1 : (i : Int) < (xs.length : Int) := by omega
   have HJ := Lib.hid hj1
   clear hr1 hl1 hj1 cx0
   go_wp2_with fail
   clear cx
   go_loopw [30] (fun s wr => ∃ (j : Nat) (ov : Option Addr) (cv : Nat), j ≤ xs.length - i ∧ s = .int .i64 j ∧ OwI wr w0.heap.size (.slice ov xs.length cv) (putTo m xs.length (atT t) (powL m xs.length xs) (powL m xs.length ys) i j) ∧ RB2 wr b (.int .i64 m) (.slice ov xs.length cv) ∧ w1.grownBy wr (some b)) (fun i' _ => xs.length - i - (intOf i').toNat)
   case atStart => exact ⟨0, ov, cv, Nat.zero_le _, rfl, hO, OO, hg⟩
   case round =>
    clear hO OO hg Br
    obtain ⟨j, ov, cv, hj, rfl, hO, OO, hg⟩ := hrel
    have Br := below_gr B1 hg (by omega) B1s
    by_cases hjl : j < xs.length - i
    ·have ex := (rx0.below Br (nl _)).cell0 (HJ.out j hjl)
     obtain ⟨-, -, -, -, hxa, hxb⟩ := HT.out.at (i := i) (j := j) (by omega)
     have j0 : (0 : Int) ≤ (j : Int) := by omega
     have j1 : (j : Int) < ((xs.length - i : Nat) : Int) := by omega
     have j2 : (j : Int) < (xs.length : Int) := by omega
     cases hx0 : (atT t i j != 0)
     ·rw [putTo_skip (by simpa using hx0)] at hO
      go_wp2
      exact ⟨⟨j + 1, _, _, by omega, by go_num, hO, OO, hg⟩, by simp [intOf]; omega⟩
     ·have hPr := (hP.grown hg (fun k hk => by cases hk; exact hbp)).now
      have hQr := (hQ.grown hg (fun k hk => by cases hk; exact hbq)).now
      obtain ⟨bp, fp, rfl⟩ := hPr.base (by rw [powsL_len]; omega)
      obtain ⟨bq, fq, rfl⟩ := hQr.base (by rw [powsL_len]; omega)
      obtain ⟨o3, c3, y0, y1, rp⟩ := hPr.at (powsL_get (show i < xs.length by omega))
      obtain ⟨o4, c4, z0, z1, rq⟩ := hQr.at (powsL_get (show j < xs.length by omega))
      rw [powL_len] at y1 rp z1 rq
      have cp2 : Cel2 wr bp (fp + i * 2) (.int .i64 m) (.slice o3 xs.length c3) := ⟨y0, y1⟩
      have cq2 : Cel2 wr bq (fq + j * 2) (.int .i64 m) (.slice o4 xs.length c4) := ⟨z0, z1⟩
      clear y0 y1 z0 z1 hPr hQr
      have HS := Lib.hid (putTo_step (m := m) (n := xs.length) (t := atT t) (P := powL m xs.length xs) (Q := powL m xs.length ys) (i := i) (j := j))
      have HLl := Lib.hid (putTo_len m xs.length (atT t) (powL m xs.length xs) (powL m xs.length ys) i j)
      have HRl := Lib.hid (putTo_range (m := m) (show 0 < m by omega) (n := xs.length) (t := atT t) (P := powL m xs.length xs) (Q := powL m xs.length ys) (i := i) (j := j))
      generalize putTo m xs.length (atT t) (powL m xs.length xs) (powL m xs.length ys) i j = l at hO HS HLl HRl
      have hgs := hg.size
      go_wp2_with fail
      clear ex
      have hd0 : Below wr.heap.size wr wr.drew := (Below.refl _ _).drew
      have hsd0 := hd0.size
      have hlb_OO := OO.1.lt
      obtain ⟨⟨q0_OO_0, q0_OO_1⟩, qf0_OO⟩ := OO.below (Below.refl wr.heap.size wr) (nl _)
      have q0_p0 := (((cp2).below (Below.refl wr.heap.size wr) (nl _))).1
      have q0_p1 := (((cp2).below (Below.refl wr.heap.size wr) (nl _))).2
      have q0_r0 := (((cq2).below (Below.refl wr.heap.size wr) (nl _))).1
      have q0_r1 := (((cq2).below (Below.refl wr.heap.size wr) (nl _))).2
      refine wp_region_S (S := fun w' => w'.cell? ⟨b , 0, none⟩ = some (.int .i64 m) ∧ w'.cell? ⟨b , 1, none⟩ = some (.slice ov xs.length cv) ∧ w'.cell? ⟨bp, fp + i * 2, none⟩ = some (.int .i64 m) ∧ w'.cell? ⟨bp, fp + i * 2 + 1, none⟩ = some (.slice o3 xs.length c3) ∧ w'.cell? ⟨bq, fq + j * 2, none⟩ = some (.int .i64 m) ∧ w'.cell? ⟨bq, fq + j * 2 + 1, none⟩ = some (.slice o4 xs.length c4)) 13 (by kernel_rfl) ?_
      have hHeld : (fun w' : World => w'.cell? ⟨b , 0, none⟩ = some (.int .i64 m) ∧ w'.cell? ⟨b , 1, none⟩ = some (.slice ov xs.length cv) ∧ w'.cell? ⟨bp, fp + i * 2, none⟩ = some (.int .i64 m) ∧ w'.cell? ⟨bp, fp + i * 2 + 1, none⟩ = some (.slice o3 xs.length c3) ∧ w'.cell? ⟨bq, fq + j * 2, none⟩ = some (.int .i64 m) ∧ w'.cell? ⟨bq, fq + j * 2 + 1, none⟩ = some (.slice o4 xs.length c4)) wr.drew := by go_keep
      refine' wpAnyS_takeL (i := 0) (v := _) rfl (by kernel_rfl) (by kernel_rfl) (by kernel_rfl) (by kernel_rfl) (fun _ _ _ h => h) (Or.inl ⟨by rfl, ?yT1⟩) hHeld ?rT1
      case yT1 => (intro w' hSw; (try dsimp only at hSw); go_simp; try with_reducible rfl)
      try simp only [Act.put, sL]
      refine' wpAnyS_takeL (i := 1) (v := _) rfl (by kernel_rfl) (by kernel_rfl) (by kernel_rfl) (by kernel_rfl) (fun _ _ _ h => h) (Or.inl ⟨by rfl, ?yT2⟩) hHeld ?rT2
      case yT2 => (intro w' hSw; (try dsimp only at hSw); go_simp; try with_reducible rfl)
      try simp only [Act.put, sL]
      refine' wpAnyS_takeL (i := 2) (v := _) rfl (by kernel_rfl) (by kernel_rfl) (by kernel_rfl) (by kernel_rfl) (fun _ _ _ h => h) (Or.inl ⟨by rfl, ?yT3⟩) hHeld ?rT3
      case yT3 => (intro w' hSw; (try dsimp only at hSw); go_simp; try with_reducible rfl)
      try simp only [Act.put, sL]
      refine' wpAnyS_takeL (i := 3) (v := _) rfl (by kernel_rfl) (by kernel_rfl) (by kernel_rfl) (by kernel_rfl) (fun _ _ _ h => h) (Or.inl ⟨by rfl, ?yT4⟩) hHeld ?rT4
      case yT4 => (intro w' hSw; (try dsimp only at hSw); go_simp; try with_reducible rfl)
      try simp only [Act.put, sL]
      refine' wpAnyS_takeL (i := 4) (v := _) rfl (by kernel_rfl) (by kernel_rfl) (by kernel_rfl) (by kernel_rfl) (fun _ _ _ h => h) (Or.inl ⟨by rfl, ?yT5⟩) hHeld ?rT5
      case yT5 => (intro w' hSw; (try dsimp only at hSw); go_simp; try with_reducible rfl)
      try simp only [Act.put, sL]
      refine' wpAnyS_takeL (i := 5) (v := _) rfl (by kernel_rfl) (by kernel_rfl) (by kernel_rfl) (by kernel_rfl) (fun _ _ _ h => h) (Or.inl ⟨by rfl, ?yT6⟩) hHeld ?rT6
      case yT6 => (intro w' hSw; (try dsimp only at hSw); go_simp; try with_reducible rfl)
      try simp only [Act.put, sL]
      refine' wpAnyS_takeL (i := 6) (v := _) rfl (by kernel_rfl) (by kernel_rfl) (by kernel_rfl) (by kernel_rfl) (fun _ _ _ h => h) (Or.inl ⟨by rfl, ?yT7⟩) hHeld ?rT7
      case yT7 => (intro w' hSw; (try dsimp only at hSw); go_simp; try with_reducible rfl)
      try simp only [Act.put, sL]
      refine' wpAnyS_takeL (i := 7) (v := _) rfl (by kernel_rfl) (by kernel_rfl) (by kernel_rfl) (by kernel_rfl) (fun _ _ _ h => h) (Or.inl ⟨by rfl, ?yT8⟩) hHeld ?rT8
      case yT8 => (intro w' hSw; (try dsimp only at hSw); go_simp; try with_reducible rfl)
      try simp only [Act.put, sL]
      refine' wpAnyS_takeL (i := 8) (v := _) rfl (by kernel_rfl) (by kernel_rfl) (by kernel_rfl) (by kernel_rfl) (fun _ _ _ h => h) (Or.inl ⟨by rfl, ?yT9⟩) hHeld ?rT9
      case yT9 => (intro w' hSw; (try dsimp only at hSw); go_simp; try with_reducible rfl)
      try simp only [Act.put, sL]
      refine' wpAnyS_takeL (i := 10) (v := _) rfl (by kernel_rfl) (by kernel_rfl) (by kernel_rfl) (by kernel_rfl) (fun _ _ _ h => h) (Or.inl ⟨by rfl, ?yT10⟩) hHeld ?rT10
      case yT10 => (intro w' hSw; (try dsimp only at hSw); go_simp; try with_reducible rfl)
      try simp only [Act.put, sL]
      refine wpAnyS_oneL (i := 9) rfl (by kernel_rfl) (fun K hK => ?_)
      go_simp
      go_at_call 90
      refine (times_c m m _ _ (powL m xs.length xs i) (powL m xs.length ys j) _ ((rp).below bZ (nl _)) ((rq).below bZ (nl _)) (by rw [powL_len, powL_len]) (by rw [powL_len]; omega) (by rw [powL_len]; omega) hm (by omega) (powL_range (by omega)) (powL_range (by omega))).mono ?_
      rintro e wd1 ⟨vt1, rfl, hod1, hbd1⟩
      rw [powL_len] at hod1; obtain ⟨ot, ct, rfl⟩ := hod1.shapeN (n := xs.length) (timesL_len _ _ _ _)
      have hd1 : Below wr.heap.size wr wd1 := (by (repeat (first | exact bR _ _ | (refine bS ?_ _) | (refine bA ?_ _) | (refine bN ?_ _) | (refine bD ?_) | (refine bT ?_ hbd1))))
      have hsd1 := hd1.size
      obtain ⟨⟨q1_OO_0, q1_OO_1⟩, qf1_OO⟩ := OO.below hd1 (nl _)
      have q1_p0 := (((cp2).below hd1 (nl _))).1
      have q1_p1 := (((cp2).below hd1 (nl _))).2
      have q1_r0 := (((cq2).below hd1 (nl _))).1
      have q1_r1 := (((cq2).below hd1 (nl _))).2
      go_wp2_with fail
      clear hHeld
      have hHeld : (fun w' : World => w'.cell? ⟨b , 0, none⟩ = some (.int .i64 m) ∧ w'.cell? ⟨b , 1, none⟩ = some (.slice ov xs.length cv) ∧ w'.cell? ⟨bp, fp + i * 2, none⟩ = some (.int .i64 m) ∧ w'.cell? ⟨bp, fp + i * 2 + 1, none⟩ = some (.slice o3 xs.length c3) ∧ w'.cell? ⟨bq, fq + j * 2, none⟩ = some (.int .i64 m) ∧ w'.cell? ⟨bq, fq + j * 2 + 1, none⟩ = some (.slice o4 xs.length c4)) wd1 := by go_keep
      refine hK.out _ _ (fun _ => hHeld) ?_
      clear hK K
      try simp only [Act.put, sL]
      refine wpAnyS_oneL (i := 11) rfl (by kernel_rfl) (fun K hK => ?_)
      go_simp
      go_at_call 91
      refine (scaled_c m (atT t i j) _ (timesL m xs.length (powL m xs.length xs i) (powL m xs.length ys j)) _ ((hod1.below bZ)).rd (by rw [timesL_len]; omega) (by rw [timesL_len]; omega) hm (by omega) (timesL_range (by omega)) (by omega) (by omega)).mono ?_
      rintro e wd2 ⟨vs2, rfl, hod2, hbd2⟩
      obtain ⟨os, cs, rfl⟩ := hod2.shapeN (n := xs.length) (by rw [scaleL_len, timesL_len])
      have hd2 : Below wr.heap.size wr wd2 := (by (repeat (first | exact bR _ _ | (refine bS ?_ _) | (refine bA ?_ _) | (refine bN ?_ _) | (refine bD ?_) | (refine bT ?_ hbd1) | (refine bT ?_ hbd2))))
      have hsd2 := hd2.size
      obtain ⟨⟨q2_OO_0, q2_OO_1⟩, qf2_OO⟩ := OO.below hd2 (nl _)
      have q2_p0 := (((cp2).below hd2 (nl _))).1
      have q2_p1 := (((cp2).below hd2 (nl _))).2
      have q2_r0 := (((cq2).below hd2 (nl _))).1
      have q2_r1 := (((cq2).below hd2 (nl _))).2
      go_wp2_with fail
      clear hHeld
      have hHeld : (fun w' : World => w'.cell? ⟨b , 0, none⟩ = some (.int .i64 m) ∧ w'.cell? ⟨b , 1, none⟩ = some (.slice ov xs.length cv) ∧ w'.cell? ⟨bp, fp + i * 2, none⟩ = some (.int .i64 m) ∧ w'.cell? ⟨bp, fp + i * 2 + 1, none⟩ = some (.slice o3 xs.length c3) ∧ w'.cell? ⟨bq, fq + j * 2, none⟩ = some (.int .i64 m) ∧ w'.cell? ⟨bq, fq + j * 2 + 1, none⟩ = some (.slice o4 xs.length c4)) wd2 := by go_keep
      refine hK.out _ _ (fun _ => hHeld) ?_
      clear hK K
      try simp only [Act.put, sL]
      refine wpAnyS_oneL (i := 12) rfl (by kernel_rfl) (fun K hK => ?_)
      go_simp
      go_at_call 89
      refine (plus_c m m _ _ l (scaleL m (atT t i j) (timesL m xs.length (powL m xs.length xs i) (powL m xs.length ys j))) _ ((hO.rd).below (by (repeat (first | exact bR _ _ | (refine bS ?_ _) | (refine bA ?_ _) | (refine bN ?_ _) | (refine bD ?_) | (refine bT ?_ hbd1) | (refine bT ?_ hbd2)))) (nl _)) ((hod2.below bZ)).rd (by rw [scaleL_len, timesL_len, HLl.out]) (by rw [HLl.out]; omega) (by rw [HLl.out]; omega) hm (by omega) HRl.out (scaleL_range (by omega))).mono ?_
      rintro e wd3 ⟨va3, rfl, hod3, hbd3⟩
      rw [HLl.out] at hod3; obtain ⟨oa, ca, rfl⟩ := hod3.shapeN (n := xs.length) (addL_len _ _ _ _)
      have hd3 : Below wr.heap.size wr wd3 := (by (repeat (first | exact bR _ _ | (refine bS ?_ _) | (refine bA ?_ _) | (refine bN ?_ _) | (refine bD ?_) | (refine bT ?_ hbd1) | (refine bT ?_ hbd2) | (refine bT ?_ hbd3))))
      have hsd3 := hd3.size
      obtain ⟨⟨q3_OO_0, q3_OO_1⟩, qf3_OO⟩ := OO.below hd3 (nl _)
      have q3_p0 := (((cp2).below hd3 (nl _))).1
      have q3_p1 := (((cp2).below hd3 (nl _))).2
      have q3_r0 := (((cq2).below hd3 (nl _))).1
      have q3_r1 := (((cq2).below hd3 (nl _))).2
      go_wp2_with fail
      clear hHeld
      have hHeld : (fun w' : World => w'.cell? ⟨b , 0, none⟩ = some (.int .i64 m) ∧ w'.cell? ⟨b , 1, none⟩ = some (.slice ov xs.length cv) ∧ w'.cell? ⟨bp, fp + i * 2, none⟩ = some (.int .i64 m) ∧ w'.cell? ⟨bp, fp + i * 2 + 1, none⟩ = some (.slice o3 xs.length c3) ∧ w'.cell? ⟨bq, fq + j * 2, none⟩ = some (.int .i64 m) ∧ w'.cell? ⟨bq, fq + j * 2 + 1, none⟩ = some (.slice o4 xs.length c4)) wd3 := by go_keep
      refine hK.out _ _ (fun _ => hHeld) ?_
      clear hK K
      try simp only [Act.put, sL]
      refine wpAnyS_oneL (i := 13) rfl (by kernel_rfl) (fun K hK => ?_)
      go_simp
      (try go_wp2_with fail)
      refine hK.out _ _ (fun h => absurd h (by decide)) ?_
      clear hK K
      try simp only [Act.put, sL]
      refine wpAnyS_done (by kernel_rfl) ?_ _
      have hOn := OO.below hd3 (nl _)
      go_wp2_with fail
      have hgZ : wr.grownBy ((wd3.setCell ⟨b , 0, none⟩ (.int .i64 m)).setCell ⟨b , 1, none⟩ (.slice oa xs.length ca)) (some b ) := (gr_put (gr_put (show wr.grownBy wd3 (some b ) from World.grownBy.mk hd3.os hd3.tape hd3.output hd3.size (fun k hk _ => hd3.block k hk)) _ _) _ _)
      have hOZ : RB2 ((wd3.setCell ⟨b , 0, none⟩ (.int .i64 m)).setCell ⟨b , 1, none⟩ (.slice oa xs.length ca)) b  (.int .i64 m) (.slice oa xs.length ca) := RB2.put hOn _ _
      have hRZ : OwI ((wd3.setCell ⟨b , 0, none⟩ (.int .i64 m)).setCell ⟨b , 1, none⟩ (.slice oa xs.length ca)) wr.heap.size (.slice oa xs.length ca) (addL m xs.length l (scaleL m (atT t i j) (timesL m xs.length (powL m xs.length xs i) (powL m xs.length ys j)))) := ((hod3.low (by first | (simp; done) | (simp; omega) | omega) _).low (by first | (simp; done) | (simp; omega) | omega) _).mono (by first | (simp; done) | (simp; omega) | omega)
      rw [HS.out] at hRZ
      exact ⟨⟨j + 1, oa, ca, by omega, by go_num, hRZ.mono (by omega), hOZ, hg.trans hgZ⟩, by simp [intOf]; omega⟩
    ·obtain rfl : j = xs.length - i := by omega
     rw [putTo_row rfl] at hO
     go_wp2
     exact ⟨⟨i + 1, _, _, by omega, by go_num, hO, OO, hg⟩, by simp [intOf]; omega⟩
  ·obtain rfl : i = xs.length := by omega
   have Br := below_gr B1 hg (by omega) B1s
   obtain ⟨⟨z0, z1⟩, zf⟩ := id OO
   obtain ⟨⟨r0, r1⟩, rf⟩ := R1.grown hg (by simp; omega)
   go_wp2
   refine bodyPost_ret (v := .agg #[.int .i64 m, .slice ov xs.length cv]) (by simp [results, Tryz.results45, go_sem, r0, r1]) rfl ⟨_, rfl, ?_, ?_⟩
   ·exact ((hO.low (by first | (simp; done) | (simp; omega) | omega) _).low (by first | (simp; done) | (simp; omega) | omega) _).mono (by first | (simp; done) | (simp; omega) | omega)
   ·(repeat (first | exact bR _ _ | (refine bS ?_ _) | (refine bA ?_ _) | (refine bN ?_ _) | (refine bD ?_) | (refine bT ?_ Br)))

theorem l03Put_c (m : Int) (n : Nat) (v u u' : Value) (t : List (List Int)) (xs ys : List Int) (w : World) (hv : RdT w v t) (hu : RdI w u xs) (hu' : RdI w u' ys) (hlx : xs.length = n) (hly : ys.length = n) (h1 : 1 ≤ n) (hn : n ≤ 1000) (hm : 2 ≤ m) (hm' : m ≤ 10000)
  (ht : PlaT m n t) (hx : ∀ x ∈ xs, 0 ≤ x ∧ x < m) (hy : ∀ x ∈ ys, 0 ≤ x ∧ x < m) :
  Calls Tryz.prog 48 #[.int .i64 m, v, u, u'] w fun e w' => ∃ v', e = .returned v' ∧ OwI w' w.heap.size v' (putL m n t xs ys) ∧ Below w.heap.size w w' := by
 subst hlx
 obtain ⟨o, c, rfl, hmt, -⟩ := id hv
 have hv' : RdT w (.slice o xs.length c) t := by rw [ht.1] at hv; exact hv
 rw [ht.1] at hmt ⊢
 have HLY := Lib.hid hly
 have HT := Lib.hid ht
 clear hly ht hv
 unfold maxLen at hmt
 have e0 : IntKind.i64.wrap (xs.length : Int) = (xs.length : Int) := IntWalk.i64_in _ (by omega)
 go_enter Tryz.func48, Tryz.ntmps48
 go_wp2_with fail
 go_cut [10, 11, 12] (fun sp sq so u => ∃ (wz : World) (op : Option Addr) (cp : Nat) (oq : Option Addr) (cq : Nat) (oz : Option Addr) (cz : Nat), wz = u ∧ sp = .slice op xs.length cp ∧ sq = .slice oq xs.length cq ∧ so = .slice oz xs.length cz ∧ RdT u (.slice op xs.length cp) (powsL m xs.length xs xs.length) ∧ RdT u (.slice oq xs.length cq) (powsL m xs.length ys xs.length) ∧ OwI u w.heap.size (.slice oz xs.length cz) (List.replicate xs.length 0) ∧ Below w.heap.size w u)
 case first =>
  have hd0 : Below w.heap.size w w.drew := (Below.refl _ _).drew
  refine wp_region_K (S := fun w' => True) [] (by kernel_rfl) ?_
  have hHeld : (fun w' : World => True) w.drew := by trivial
  refine' wpAnyK_takeL (i := 0) (v := _) rfl (by kernel_rfl) (by kernel_rfl) (by kernel_rfl) (by kernel_rfl) (fun _ _ _ h => h) (Or.inl ⟨by rfl, ?yT11⟩) hHeld ?rT11
  case yT11 => (intro w' hSw; (try dsimp only at hSw); go_simp; try with_reducible rfl)
  try simp only [Act.put, sL]
  refine' wpAnyK_takeL (i := 1) (v := _) rfl (by kernel_rfl) (by kernel_rfl) (by kernel_rfl) (by kernel_rfl) (fun _ _ _ h => h) (Or.inl ⟨by rfl, ?yT12⟩) hHeld ?rT12
  case yT12 => (intro w' hSw; (try dsimp only at hSw); go_simp; try with_reducible rfl)
  try simp only [Act.put, sL]
  refine' wpAnyK_takeL (i := 3) (v := _) rfl (by kernel_rfl) (by kernel_rfl) (by kernel_rfl) (by kernel_rfl) (fun _ _ _ h => h) (Or.inl ⟨by rfl, ?yT13⟩) hHeld ?rT13
  case yT13 => (intro w' hSw; (try dsimp only at hSw); go_simp; try with_reducible rfl)
  try simp only [Act.put, sL]
  refine' wpAnyK_takeL (i := 4) (v := _) rfl (by kernel_rfl) (by kernel_rfl) (by kernel_rfl) (by kernel_rfl) (fun _ _ _ h => h) (Or.inl ⟨by rfl, ?yT14⟩) hHeld ?rT14
  case yT14 => (intro w' hSw; (try dsimp only at hSw); go_simp; try with_reducible rfl)
  try simp only [Act.put, sL]
  refine' wpAnyK_takeL (i := 6) (v := _) rfl (by kernel_rfl) (by kernel_rfl) (by kernel_rfl) (by kernel_rfl) (fun _ _ _ h => h) (Or.inl ⟨by rfl, ?yT15⟩) hHeld ?rT15
  case yT15 => (intro w' hSw; (try dsimp only at hSw); go_simp; try with_reducible rfl)
  try simp only [Act.put, sL]
  refine' wpAnyK_takeL (i := 7) (v := _) rfl (by kernel_rfl) (by kernel_rfl) (by kernel_rfl) (by kernel_rfl) (fun _ _ _ h => h) (Or.inl ⟨by rfl, ?yT16⟩) hHeld ?rT16
  case yT16 => (intro w' hSw; (try dsimp only at hSw); go_simp; try with_reducible rfl)
  try simp only [Act.put, sL]
  refine wpAnyK_two (i := 2) (j := 8) rfl rfl (by kernel_rfl) (fun K hK => ?_) (fun K hK => ?_)
  ·skip
   go_simp
   go_at_call 94
   refine (l03Powers_c m xs.length u xs _ (hu.below bZ (nl _)) rfl h1 hn hm (by omega) hx).mono ?_
   rintro e wp ⟨vp, rfl, hop, hbp⟩
   obtain ⟨op, cp, rfl⟩ := hop.shapeN (n := xs.length) (powsL_len _ _ _ _)
   have hdp : Below w.heap.size w wp := (by (repeat (first | exact bR _ _ | (refine bS ?_ _) | (refine bA ?_ _) | (refine bN ?_ _) | (refine bD ?_) | (refine bT ?_ hbp))))
   have hsp := hdp.size
   have hrp := hbp.size
   go_wp2_with fail
   refine hK.out _ _ (fun _ => hHeld) ?_
   clear hK K
   try simp only [Act.put, sL]
   refine wpAnyK_two (i := 5) (j := 8) rfl rfl (by kernel_rfl) (fun K hK => ?_) (fun K hK => ?_)
   ·skip
    go_simp
    go_at_call 94
    refine (l03Powers_c m xs.length u' ys _ (hu'.below (by (repeat (first | exact bR _ _ | (refine bS ?_ _) | (refine bA ?_ _) | (refine bN ?_ _) | (refine bD ?_) | (refine bT ?_ hbp)))) (nl _)) HLY.out h1 hn hm (by omega) hy).mono ?_
    rintro e wq ⟨vq, rfl, hoq, hbq⟩
    obtain ⟨oq, cq, rfl⟩ := hoq.shapeN (n := xs.length) (powsL_len _ _ _ _)
    have hdq : Below w.heap.size w wq := (by (repeat (first | exact bR _ _ | (refine bS ?_ _) | (refine bA ?_ _) | (refine bN ?_ _) | (refine bD ?_) | (refine bT ?_ hbp) | (refine bT ?_ hbq))))
    have hsq := hdq.size
    have hrq := hbq.size
    go_wp2_with fail
    refine hK.out _ _ (fun _ => hHeld) ?_
    clear hK K
    try simp only [Act.put, sL]
    refine' wpAnyK_takeL (i := 9) (v := _) rfl (by kernel_rfl) (by kernel_rfl) (by kernel_rfl) (by kernel_rfl) (fun _ _ _ h => h) (Or.inl ⟨by rfl, ?yT17⟩) hHeld ?rT17
    case yT17 => (intro w' hSw; (try dsimp only at hSw); go_simp; try with_reducible rfl)
    try simp only [Act.put, sL]
    refine' wpAnyK_takeL (i := 10) (v := _) rfl (by kernel_rfl) (by kernel_rfl) (by kernel_rfl) (by kernel_rfl) (fun _ _ _ h => h) (Or.inl ⟨by rfl, ?yT18⟩) hHeld ?rT18
    case yT18 => (intro w' hSw; (try dsimp only at hSw); go_simp; try with_reducible rfl)
    try simp only [Act.put, sL]
    refine wpAnyK_oneL (i := 8) rfl (by kernel_rfl) (fun K hK => ?_)
    refine stMk rfl _ _ rfl _ _ _ xs.length rfl rfl (by omega) (by omega) ?_
    intro wz hoz hbz hs0
    have hdz : Below w.heap.size w wz := (by (repeat (first | exact bR _ _ | (refine bS ?_ _) | (refine bA ?_ _) | (refine bN ?_ _) | (refine bD ?_) | (refine bT ?_ hbp) | (refine bT ?_ hbq) | (refine bT ?_ hbz))))
    have hsz := hdz.size
    have hrz := hbz.size
    clear hs0
    refine hK.out _ _ (fun _ => hHeld) ?_
    clear hK K
    try simp only [Act.put, sL]
    refine wpAnyK_oneL (i := 11) rfl (by kernel_rfl) (fun K hK => ?_)
    go_simp
    (try go_wp2_with fail)
    refine hK.out _ _ (fun _ => hHeld) ?_
    clear hK K
    try simp only [Act.put, sL]
    refine wpAnyK_done (by kernel_rfl) ?_ _
    go_wp2_with fail
    go_meet
    exact ⟨_, op, cp, oq, cq, _, _, rfl, rfl, rfl, rfl, hop.rd.below (by (repeat (first | exact bR _ _ | (refine bS ?_ _) | (refine bA ?_ _) | (refine bN ?_ _) | (refine bD ?_) | (refine bT ?_ hbp) | (refine bT ?_ hbq) | (refine bT ?_ hbz)))) (nl _), hoq.rd.below (by (repeat (first | exact bR _ _ | (refine bS ?_ _) | (refine bA ?_ _) | (refine bN ?_ _) | (refine bD ?_) | (refine bT ?_ hbp) | (refine bT ?_ hbq) | (refine bT ?_ hbz)))) (nl _), (hoz.below (by (repeat (first | exact bR _ _ | (refine bS ?_ _) | (refine bA ?_ _) | (refine bN ?_ _) | (refine bD ?_) | (refine bT ?_ hbp) | (refine bT ?_ hbq) | (refine bT ?_ hbz))))).mono (by first | (simp; done) | (simp; omega) | omega), (by (repeat (first | exact bR _ _ | (refine bS ?_ _) | (refine bA ?_ _) | (refine bN ?_ _) | (refine bD ?_) | (refine bT ?_ hbp) | (refine bT ?_ hbq) | (refine bT ?_ hbz))))⟩
   ·skip
    refine stMk rfl _ _ rfl _ _ _ xs.length rfl rfl (by omega) (by omega) ?_
    intro wz hoz hbz hs0
    have hdz : Below w.heap.size w wz := (by (repeat (first | exact bR _ _ | (refine bS ?_ _) | (refine bA ?_ _) | (refine bN ?_ _) | (refine bD ?_) | (refine bT ?_ hbp) | (refine bT ?_ hbz))))
    have hsz := hdz.size
    have hrz := hbz.size
    clear hs0
    refine hK.out _ _ (fun _ => hHeld) ?_
    clear hK K
    try simp only [Act.put, sL]
    refine wpAnyK_oneL (i := 5) rfl (by kernel_rfl) (fun K hK => ?_)
    go_simp
    go_at_call 94
    refine (l03Powers_c m xs.length u' ys _ (hu'.below (by (repeat (first | exact bR _ _ | (refine bS ?_ _) | (refine bA ?_ _) | (refine bN ?_ _) | (refine bD ?_) | (refine bT ?_ hbp) | (refine bT ?_ hbz)))) (nl _)) HLY.out h1 hn hm (by omega) hy).mono ?_
    rintro e wq ⟨vq, rfl, hoq, hbq⟩
    obtain ⟨oq, cq, rfl⟩ := hoq.shapeN (n := xs.length) (powsL_len _ _ _ _)
    have hdq : Below w.heap.size w wq := (by (repeat (first | exact bR _ _ | (refine bS ?_ _) | (refine bA ?_ _) | (refine bN ?_ _) | (refine bD ?_) | (refine bT ?_ hbp) | (refine bT ?_ hbz) | (refine bT ?_ hbq))))
    have hsq := hdq.size
    have hrq := hbq.size
    go_wp2_with fail
    refine hK.out _ _ (fun _ => hHeld) ?_
    clear hK K
    try simp only [Act.put, sL]
    refine' wpAnyK_takeL (i := 9) (v := _) rfl (by kernel_rfl) (by kernel_rfl) (by kernel_rfl) (by kernel_rfl) (fun _ _ _ h => h) (Or.inl ⟨by rfl, ?yT19⟩) hHeld ?rT19
    case yT19 => (intro w' hSw; (try dsimp only at hSw); go_simp; try with_reducible rfl)
    try simp only [Act.put, sL]
    refine' wpAnyK_takeL (i := 10) (v := _) rfl (by kernel_rfl) (by kernel_rfl) (by kernel_rfl) (by kernel_rfl) (fun _ _ _ h => h) (Or.inl ⟨by rfl, ?yT20⟩) hHeld ?rT20
    case yT20 => (intro w' hSw; (try dsimp only at hSw); go_simp; try with_reducible rfl)
    try simp only [Act.put, sL]
    refine wpAnyK_oneL (i := 11) rfl (by kernel_rfl) (fun K hK => ?_)
    go_simp
    (try go_wp2_with fail)
    refine hK.out _ _ (fun _ => hHeld) ?_
    clear hK K
    try simp only [Act.put, sL]
    refine wpAnyK_done (by kernel_rfl) ?_ _
    go_wp2_with fail
    go_meet
    exact ⟨_, op, cp, oq, cq, _, _, rfl, rfl, rfl, rfl, hop.rd.below (by (repeat (first | exact bR _ _ | (refine bS ?_ _) | (refine bA ?_ _) | (refine bN ?_ _) | (refine bD ?_) | (refine bT ?_ hbp) | (refine bT ?_ hbz) | (refine bT ?_ hbq)))) (nl _), hoq.rd.below (by (repeat (first | exact bR _ _ | (refine bS ?_ _) | (refine bA ?_ _) | (refine bN ?_ _) | (refine bD ?_) | (refine bT ?_ hbp) | (refine bT ?_ hbz) | (refine bT ?_ hbq)))) (nl _), (hoz.below (by (repeat (first | exact bR _ _ | (refine bS ?_ _) | (refine bA ?_ _) | (refine bN ?_ _) | (refine bD ?_) | (refine bT ?_ hbp) | (refine bT ?_ hbz) | (refine bT ?_ hbq))))).mono (by first | (simp; done) | (simp; omega) | omega), (by (repeat (first | exact bR _ _ | (refine bS ?_ _) | (refine bA ?_ _) | (refine bN ?_ _) | (refine bD ?_) | (refine bT ?_ hbp) | (refine bT ?_ hbz) | (refine bT ?_ hbq))))⟩
  ·skip
   refine stMk rfl _ _ rfl _ _ _ xs.length rfl rfl (by omega) (by omega) ?_
   intro wz hoz hbz hs0
   have hdz : Below w.heap.size w wz := (by (repeat (first | exact bR _ _ | (refine bS ?_ _) | (refine bA ?_ _) | (refine bN ?_ _) | (refine bD ?_) | (refine bT ?_ hbz))))
   have hsz := hdz.size
   have hrz := hbz.size
   clear hs0
   refine hK.out _ _ (fun _ => hHeld) ?_
   clear hK K
   try simp only [Act.put, sL]
   refine wpAnyK_oneL (i := 2) rfl (by kernel_rfl) (fun K hK => ?_)
   go_simp
   go_at_call 94
   refine (l03Powers_c m xs.length u xs _ (hu.below (by (repeat (first | exact bR _ _ | (refine bS ?_ _) | (refine bA ?_ _) | (refine bN ?_ _) | (refine bD ?_) | (refine bT ?_ hbz)))) (nl _)) rfl h1 hn hm (by omega) hx).mono ?_
   rintro e wp ⟨vp, rfl, hop, hbp⟩
   obtain ⟨op, cp, rfl⟩ := hop.shapeN (n := xs.length) (powsL_len _ _ _ _)
   have hdp : Below w.heap.size w wp := (by (repeat (first | exact bR _ _ | (refine bS ?_ _) | (refine bA ?_ _) | (refine bN ?_ _) | (refine bD ?_) | (refine bT ?_ hbz) | (refine bT ?_ hbp))))
   have hsp := hdp.size
   have hrp := hbp.size
   go_wp2_with fail
   refine hK.out _ _ (fun _ => hHeld) ?_
   clear hK K
   try simp only [Act.put, sL]
   refine wpAnyK_oneL (i := 5) rfl (by kernel_rfl) (fun K hK => ?_)
   go_simp
   go_at_call 94
   refine (l03Powers_c m xs.length u' ys _ (hu'.below (by (repeat (first | exact bR _ _ | (refine bS ?_ _) | (refine bA ?_ _) | (refine bN ?_ _) | (refine bD ?_) | (refine bT ?_ hbz) | (refine bT ?_ hbp)))) (nl _)) HLY.out h1 hn hm (by omega) hy).mono ?_
   rintro e wq ⟨vq, rfl, hoq, hbq⟩
   obtain ⟨oq, cq, rfl⟩ := hoq.shapeN (n := xs.length) (powsL_len _ _ _ _)
   have hdq : Below w.heap.size w wq := (by (repeat (first | exact bR _ _ | (refine bS ?_ _) | (refine bA ?_ _) | (refine bN ?_ _) | (refine bD ?_) | (refine bT ?_ hbz) | (refine bT ?_ hbp) | (refine bT ?_ hbq))))
   have hsq := hdq.size
   have hrq := hbq.size
   go_wp2_with fail
   refine hK.out _ _ (fun _ => hHeld) ?_
   clear hK K
   try simp only [Act.put, sL]
   refine' wpAnyK_takeL (i := 9) (v := _) rfl (by kernel_rfl) (by kernel_rfl) (by kernel_rfl) (by kernel_rfl) (fun _ _ _ h => h) (Or.inl ⟨by rfl, ?yT21⟩) hHeld ?rT21
   case yT21 => (intro w' hSw; (try dsimp only at hSw); go_simp; try with_reducible rfl)
   try simp only [Act.put, sL]
   refine' wpAnyK_takeL (i := 10) (v := _) rfl (by kernel_rfl) (by kernel_rfl) (by kernel_rfl) (by kernel_rfl) (fun _ _ _ h => h) (Or.inl ⟨by rfl, ?yT22⟩) hHeld ?rT22
   case yT22 => (intro w' hSw; (try dsimp only at hSw); go_simp; try with_reducible rfl)
   try simp only [Act.put, sL]
   refine wpAnyK_oneL (i := 11) rfl (by kernel_rfl) (fun K hK => ?_)
   go_simp
   (try go_wp2_with fail)
   refine hK.out _ _ (fun _ => hHeld) ?_
   clear hK K
   try simp only [Act.put, sL]
   refine wpAnyK_done (by kernel_rfl) ?_ _
   go_wp2_with fail
   go_meet
   exact ⟨_, op, cp, oq, cq, _, _, rfl, rfl, rfl, rfl, hop.rd.below (by (repeat (first | exact bR _ _ | (refine bS ?_ _) | (refine bA ?_ _) | (refine bN ?_ _) | (refine bD ?_) | (refine bT ?_ hbz) | (refine bT ?_ hbp) | (refine bT ?_ hbq)))) (nl _), hoq.rd.below (by (repeat (first | exact bR _ _ | (refine bS ?_ _) | (refine bA ?_ _) | (refine bN ?_ _) | (refine bD ?_) | (refine bT ?_ hbz) | (refine bT ?_ hbp) | (refine bT ?_ hbq)))) (nl _), (hoz.below (by (repeat (first | exact bR _ _ | (refine bS ?_ _) | (refine bA ?_ _) | (refine bN ?_ _) | (refine bD ?_) | (refine bT ?_ hbz) | (refine bT ?_ hbp) | (refine bT ?_ hbq))))).mono (by first | (simp; done) | (simp; omega) | omega), (by (repeat (first | exact bR _ _ | (refine bS ?_ _) | (refine bA ?_ _) | (refine bN ?_ _) | (refine bD ?_) | (refine bT ?_ hbz) | (refine bT ?_ hbp) | (refine bT ?_ hbq))))⟩
 case rest =>
 obtain ⟨w1, op, cp, oq, cq, oz, cz, rfl, rfl, rfl, rfl, hP, hQ, how, B1⟩ := hcut
 rw [putTo_0 m xs.length (atT t) (powL m xs.length xs) (powL m xs.length ys)] at how
 obtain ⟨bt, ft, rfl, -⟩ := hv'.rows (by have := HT.out.1; omega)
 obtain ⟨bp, fp, rfl, -⟩ := hP.rows (by rw [powsL_len]; omega)
 obtain ⟨bq, fq, rfl, -⟩ := hQ.rows (by rw [powsL_len]; omega)
 go_wp2_with fail
 go_loopw [12, 13] (fun so s wr => ∃ (i : Nat) (ov : Option Addr) (cv : Nat), i ≤ xs.length ∧ s = .int .i64 i ∧ so = .slice ov xs.length cv ∧ OwI wr w.heap.size (.slice ov xs.length cv) (putTo m xs.length (atT t) (powL m xs.length xs) (powL m xs.length ys) i 0) ∧ Below w1.heap.size w1 wr) (fun _ i _ => xs.length - (intOf i).toNat)
 case atStart => exact ⟨0, oz, cz, Nat.zero_le _, rfl, rfl, how, Below.refl _ _⟩
 case round =>
  obtain ⟨i, ov, cv, hi', rfl, rfl, hO, hB⟩ := hrel
  by_cases hlt : i < xs.length
  ·obtain ⟨r1, hr1, hl1, hj1⟩ := HT.out.row hlt
   obtain ⟨p1, q1, cx0, rx0⟩ := hv'.row hr1
   rw [hl1] at cx0 rx0
   obtain ⟨b1, f1, rfl, -⟩ := rx0.cells (by omega)
   have i0 : (0 : Int) ≤ (i : Int) := by omega
   have i1 : (i : Int) < (xs.length : Int) := by omega
   have i2 : (i : Int) ≤ (xs.length : Int) - 1 := by omega
   have HJ := Lib.hid hj1
   clear hr1 hl1 hj1
   go_wp2_with fail
   go_loopw [12, 14] (fun so s wr => ∃ (j : Nat) (ov : Option Addr) (cv : Nat), j ≤ xs.length - i ∧ s = .int .i64 j ∧ so = .slice ov xs.length cv ∧ OwI wr w.heap.size (.slice ov xs.length cv) (putTo m xs.length (atT t) (powL m xs.length xs) (powL m xs.length ys) i j) ∧ Below w1.heap.size w1 wr) (fun _ i' _ => xs.length - i - (intOf i').toNat)
   case atStart => exact ⟨0, ov, cv, Nat.zero_le _, rfl, rfl, hO, hB⟩
   case round =>
    clear hO hB
    obtain ⟨j, ov, cv, hj, rfl, rfl, hO, hB⟩ := hrel
    have B1s := B1.size
    have hBs := hB.size
    have Br := B1.trans (hB.mono B1s)
    have cx := keep_cell Br (nl _) cx0
    by_cases hjl : j < xs.length - i
    ·have ex := (rx0.below Br (nl _)).cell0 (HJ.out j hjl)
     obtain ⟨-, -, -, -, hxa, hxb⟩ := HT.out.at (i := i) (j := j) (by omega)
     have j0 : (0 : Int) ≤ (j : Int) := by omega
     have j1 : (j : Int) < ((xs.length - i : Nat) : Int) := by omega
     have j2 : (j : Int) < (xs.length : Int) := by omega
     cases hx0 : (atT t i j != 0)
     ·rw [putTo_skip (by simpa using hx0)] at hO
      go_wp2
      exact ⟨⟨j + 1, _, _, by omega, by go_num, rfl, hO, hB⟩, by simp [intOf]; omega⟩
     ·obtain ⟨o3, c3, y0, rp⟩ := (hP.below hB (nl _)).row (powsL_get (show i < xs.length by omega))
      obtain ⟨o4, c4, z0, rq⟩ := (hQ.below hB (nl _)).row (powsL_get (show j < xs.length by omega))
      rw [powL_len] at y0 rp z0 rq
      have HS := Lib.hid (putTo_step (m := m) (n := xs.length) (t := atT t) (P := powL m xs.length xs) (Q := powL m xs.length ys) (i := i) (j := j))
      have HLl := Lib.hid (putTo_len m xs.length (atT t) (powL m xs.length xs) (powL m xs.length ys) i j)
      have HRl := Lib.hid (putTo_range (m := m) (show 0 < m by omega) (n := xs.length) (t := atT t) (P := powL m xs.length xs) (Q := powL m xs.length ys) (i := i) (j := j))
      generalize putTo m xs.length (atT t) (powL m xs.length xs) (powL m xs.length ys) i j = l at hO HS HLl HRl
      go_wp2_with fail
      have hd0 : Below wr.heap.size wr wr.drew := (Below.refl _ _).drew
      have hsd0 := hd0.size
      have f0_a := keep_cell hd0 (nl _) cx
      have f0_b := keep_cell hd0 (nl _) ex
      have f0_c := keep_cell hd0 (nl _) y0
      have f0_d := keep_cell hd0 (nl _) z0
      refine wp_region_K (S := fun w' => w'.cell? ⟨bt, ft + i, none⟩ = some (.slice (some ⟨b1, f1, none⟩) (xs.length - i) q1) ∧ w'.cell? ⟨b1, f1 + j, none⟩ = some (.int .i64 (atT t i j)) ∧ w'.cell? ⟨bp, fp + i, none⟩ = some (.slice o3 xs.length c3) ∧ w'.cell? ⟨bq, fq + j, none⟩ = some (.slice o4 xs.length c4)) [23] (by kernel_rfl) ?_
      have hHeld : (fun w' : World => w'.cell? ⟨bt, ft + i, none⟩ = some (.slice (some ⟨b1, f1, none⟩) (xs.length - i) q1) ∧ w'.cell? ⟨b1, f1 + j, none⟩ = some (.int .i64 (atT t i j)) ∧ w'.cell? ⟨bp, fp + i, none⟩ = some (.slice o3 xs.length c3) ∧ w'.cell? ⟨bq, fq + j, none⟩ = some (.slice o4 xs.length c4)) wr.drew := by go_keep
      refine' wpAnyK_takeL (i := 0) (v := _) rfl (by kernel_rfl) (by kernel_rfl) (by kernel_rfl) (by kernel_rfl) (fun _ _ _ h => h) (Or.inl ⟨by rfl, ?yT23⟩) hHeld ?rT23
      case yT23 => (intro w' hSw; (try dsimp only at hSw); go_simp; try with_reducible rfl)
      try simp only [Act.put, sL]
      refine' wpAnyK_takeL (i := 1) (v := _) rfl (by kernel_rfl) (by kernel_rfl) (by kernel_rfl) (by kernel_rfl) (fun _ _ _ h => h) (Or.inl ⟨by rfl, ?yT24⟩) hHeld ?rT24
      case yT24 => (intro w' hSw; (try dsimp only at hSw); go_simp; try with_reducible rfl)
      try simp only [Act.put, sL]
      refine' wpAnyK_takeL (i := 2) (v := _) rfl (by kernel_rfl) (by kernel_rfl) (by kernel_rfl) (by kernel_rfl) (fun _ _ _ h => h) (Or.inl ⟨by rfl, ?yT25⟩) hHeld ?rT25
      case yT25 => (intro w' hSw; (try dsimp only at hSw); go_simp; try with_reducible rfl)
      try simp only [Act.put, sL]
      refine' wpAnyK_takeL (i := 3) (v := _) rfl (by kernel_rfl) (by kernel_rfl) (by kernel_rfl) (by kernel_rfl) (fun _ _ _ h => h) (Or.inl ⟨by rfl, ?yT26⟩) hHeld ?rT26
      case yT26 => (intro w' hSw; (try dsimp only at hSw); go_simp; try with_reducible rfl)
      try simp only [Act.put, sL]
      refine' wpAnyK_takeL (i := 4) (v := _) rfl (by kernel_rfl) (by kernel_rfl) (by kernel_rfl) (by kernel_rfl) (fun _ _ _ h => h) (Or.inl ⟨by rfl, ?yT27⟩) hHeld ?rT27
      case yT27 => (intro w' hSw; (try dsimp only at hSw); go_simp; try with_reducible rfl)
      try simp only [Act.put, sL]
      refine' wpAnyK_takeL (i := 5) (v := _) rfl (by kernel_rfl) (by kernel_rfl) (by kernel_rfl) (by kernel_rfl) (fun _ _ _ h => h) (Or.inl ⟨by rfl, ?yT28⟩) hHeld ?rT28
      case yT28 => (intro w' hSw; (try dsimp only at hSw); go_simp; try with_reducible rfl)
      try simp only [Act.put, sL]
      refine' wpAnyK_takeL (i := 6) (v := _) rfl (by kernel_rfl) (by kernel_rfl) (by kernel_rfl) (by kernel_rfl) (fun _ _ _ h => h) (Or.inl ⟨by rfl, ?yT29⟩) hHeld ?rT29
      case yT29 => (intro w' hSw; (try dsimp only at hSw); go_simp; try with_reducible rfl)
      try simp only [Act.put, sL]
      refine' wpAnyK_takeL (i := 7) (v := _) rfl (by kernel_rfl) (by kernel_rfl) (by kernel_rfl) (by kernel_rfl) (fun _ _ _ h => h) (Or.inl ⟨by rfl, ?yT30⟩) hHeld ?rT30
      case yT30 => (intro w' hSw; (try dsimp only at hSw); go_simp; try with_reducible rfl)
      try simp only [Act.put, sL]
      refine' wpAnyK_takeL (i := 8) (v := _) rfl (by kernel_rfl) (by kernel_rfl) (by kernel_rfl) (by kernel_rfl) (fun _ _ _ h => h) (Or.inl ⟨by rfl, ?yT31⟩) hHeld ?rT31
      case yT31 => (intro w' hSw; (try dsimp only at hSw); go_simp; try with_reducible rfl)
      try simp only [Act.put, sL]
      refine' wpAnyK_takeL (i := 9) (v := _) rfl (by kernel_rfl) (by kernel_rfl) (by kernel_rfl) (by kernel_rfl) (fun _ _ _ h => h) (Or.inl ⟨by rfl, ?yT32⟩) hHeld ?rT32
      case yT32 => (intro w' hSw; (try dsimp only at hSw); go_simp; try with_reducible rfl)
      try simp only [Act.put, sL]
      refine' wpAnyK_takeL (i := 10) (v := _) rfl (by kernel_rfl) (by kernel_rfl) (by kernel_rfl) (by kernel_rfl) (fun _ _ _ h => h) (Or.inl ⟨by rfl, ?yT33⟩) hHeld ?rT33
      case yT33 => (intro w' hSw; (try dsimp only at hSw); go_simp; try with_reducible rfl)
      try simp only [Act.put, sL]
      refine' wpAnyK_takeL (i := 11) (v := _) rfl (by kernel_rfl) (by kernel_rfl) (by kernel_rfl) (by kernel_rfl) (fun _ _ _ h => h) (Or.inl ⟨by rfl, ?yT34⟩) hHeld ?rT34
      case yT34 => (intro w' hSw; (try dsimp only at hSw); go_simp; try with_reducible rfl)
      try simp only [Act.put, sL]
      refine' wpAnyK_takeL (i := 12) (v := _) rfl (by kernel_rfl) (by kernel_rfl) (by kernel_rfl) (by kernel_rfl) (fun _ _ _ h => h) (Or.inl ⟨by rfl, ?yT35⟩) hHeld ?rT35
      case yT35 => (intro w' hSw; (try dsimp only at hSw); go_simp; try with_reducible rfl)
      try simp only [Act.put, sL]
      refine' wpAnyK_takeL (i := 13) (v := _) rfl (by kernel_rfl) (by kernel_rfl) (by kernel_rfl) (by kernel_rfl) (fun _ _ _ h => h) (Or.inl ⟨by rfl, ?yT36⟩) hHeld ?rT36
      case yT36 => (intro w' hSw; (try dsimp only at hSw); go_simp; try with_reducible rfl)
      try simp only [Act.put, sL]
      refine' wpAnyK_takeL (i := 14) (v := _) rfl (by kernel_rfl) (by kernel_rfl) (by kernel_rfl) (by kernel_rfl) (fun _ _ _ h => h) (Or.inl ⟨by rfl, ?yT37⟩) hHeld ?rT37
      case yT37 => (intro w' hSw; (try dsimp only at hSw); go_simp; try with_reducible rfl)
      try simp only [Act.put, sL]
      refine' wpAnyK_takeL (i := 15) (v := _) rfl (by kernel_rfl) (by kernel_rfl) (by kernel_rfl) (by kernel_rfl) (fun _ _ _ h => h) (Or.inl ⟨by rfl, ?yT38⟩) hHeld ?rT38
      case yT38 => (intro w' hSw; (try dsimp only at hSw); go_simp; try with_reducible rfl)
      try simp only [Act.put, sL]
      refine' wpAnyK_takeL (i := 16) (v := _) rfl (by kernel_rfl) (by kernel_rfl) (by kernel_rfl) (by kernel_rfl) (fun _ _ _ h => h) (Or.inl ⟨by rfl, ?yT39⟩) hHeld ?rT39
      case yT39 => (intro w' hSw; (try dsimp only at hSw); go_simp; try with_reducible rfl)
      try simp only [Act.put, sL]
      refine' wpAnyK_takeL (i := 17) (v := _) rfl (by kernel_rfl) (by kernel_rfl) (by kernel_rfl) (by kernel_rfl) (fun _ _ _ h => h) (Or.inl ⟨by rfl, ?yT40⟩) hHeld ?rT40
      case yT40 => (intro w' hSw; (try dsimp only at hSw); go_simp; try with_reducible rfl)
      try simp only [Act.put, sL]
      refine' wpAnyK_takeL (i := 18) (v := _) rfl (by kernel_rfl) (by kernel_rfl) (by kernel_rfl) (by kernel_rfl) (fun _ _ _ h => h) (Or.inl ⟨by rfl, ?yT41⟩) hHeld ?rT41
      case yT41 => (intro w' hSw; (try dsimp only at hSw); go_simp; try with_reducible rfl)
      try simp only [Act.put, sL]
      refine' wpAnyK_takeL (i := 19) (v := _) rfl (by kernel_rfl) (by kernel_rfl) (by kernel_rfl) (by kernel_rfl) (fun _ _ _ h => h) (Or.inl ⟨by rfl, ?yT42⟩) hHeld ?rT42
      case yT42 => (intro w' hSw; (try dsimp only at hSw); go_simp; try with_reducible rfl)
      try simp only [Act.put, sL]
      refine wpAnyK_oneL (i := 20) rfl (by kernel_rfl) (fun K hK => ?_)
      go_simp
      go_at_call 97
      refine (l02Times_c m _ xs.length _ _ (powL m xs.length xs i) (powL m xs.length ys j) _ rfl ((rp).below bZ (nl _)) ((rq).below bZ (nl _)) h1 (by omega) hm (by omega) (powL_range (by omega)) (powL_range (by omega))).mono ?_
      rintro e wd1 ⟨vt1, rfl, hod1, hbd1⟩
      obtain ⟨ot, ct, rfl⟩ := hod1.shapeN (n := xs.length) (timesL_len _ _ _ _)
      have hd1 : Below wr.heap.size wr wd1 := (by (repeat (first | exact bR _ _ | (refine bS ?_ _) | (refine bA ?_ _) | (refine bN ?_ _) | (refine bD ?_) | (refine bT ?_ hbd1))))
      have hsd1 := hd1.size
      have hsz1_ := hbd1.size
      (try simp at hsz1_)
      have f1_a := keep_cell hd1 (nl _) cx
      have f1_b := keep_cell hd1 (nl _) ex
      have f1_c := keep_cell hd1 (nl _) y0
      have f1_d := keep_cell hd1 (nl _) z0
      go_wp2_with fail
      clear hHeld
      have hHeld : (fun w' : World => w'.cell? ⟨bt, ft + i, none⟩ = some (.slice (some ⟨b1, f1, none⟩) (xs.length - i) q1) ∧ w'.cell? ⟨b1, f1 + j, none⟩ = some (.int .i64 (atT t i j)) ∧ w'.cell? ⟨bp, fp + i, none⟩ = some (.slice o3 xs.length c3) ∧ w'.cell? ⟨bq, fq + j, none⟩ = some (.slice o4 xs.length c4)) wd1 := by go_keep
      refine hK.out _ _ (fun _ => hHeld) ?_
      clear hK K
      try simp only [Act.put, sL]
      refine wpAnyK_oneL (i := 21) rfl (by kernel_rfl) (fun K hK => ?_)
      go_simp
      go_at_call 96
      refine (l02Scale_c m (atT t i j) _ (timesL m xs.length (powL m xs.length xs i) (powL m xs.length ys j)) _ ((hod1.below bZ)).rd (by rw [timesL_len]; omega) hm (by omega) hxa hxb (timesL_range (by omega))).mono ?_
      rintro e wd2 ⟨vs2, rfl, hod2, hbd2⟩
      obtain ⟨os, cs, rfl⟩ := hod2.shapeN (n := xs.length) (by rw [scaleL_len, timesL_len])
      have hd2 : Below wr.heap.size wr wd2 := (by (repeat (first | exact bR _ _ | (refine bS ?_ _) | (refine bA ?_ _) | (refine bN ?_ _) | (refine bD ?_) | (refine bT ?_ hbd1) | (refine bT ?_ hbd2))))
      have hsd2 := hd2.size
      have hsz2_ := hbd2.size
      (try simp at hsz2_)
      have f2_a := keep_cell hd2 (nl _) cx
      have f2_b := keep_cell hd2 (nl _) ex
      have f2_c := keep_cell hd2 (nl _) y0
      have f2_d := keep_cell hd2 (nl _) z0
      go_wp2_with fail
      clear hHeld
      have hHeld : (fun w' : World => w'.cell? ⟨bt, ft + i, none⟩ = some (.slice (some ⟨b1, f1, none⟩) (xs.length - i) q1) ∧ w'.cell? ⟨b1, f1 + j, none⟩ = some (.int .i64 (atT t i j)) ∧ w'.cell? ⟨bp, fp + i, none⟩ = some (.slice o3 xs.length c3) ∧ w'.cell? ⟨bq, fq + j, none⟩ = some (.slice o4 xs.length c4)) wd2 := by go_keep
      refine hK.out _ _ (fun _ => hHeld) ?_
      clear hK K
      try simp only [Act.put, sL]
      refine wpAnyK_oneL (i := 22) rfl (by kernel_rfl) (fun K hK => ?_)
      go_simp
      go_at_call 95
      refine (l02Add_c m _ _ l (scaleL m (atT t i j) (timesL m xs.length (powL m xs.length xs i) (powL m xs.length ys j))) _ ((hO.rd).below (by (repeat (first | exact bR _ _ | (refine bS ?_ _) | (refine bA ?_ _) | (refine bN ?_ _) | (refine bD ?_) | (refine bT ?_ hbd1) | (refine bT ?_ hbd2)))) (nl _)) ((hod2.below bZ)).rd (by rw [scaleL_len, timesL_len, HLl.out]; omega) (by rw [HLl.out]; omega) hm (by omega) HRl.out (scaleL_range (by omega))).mono ?_
      rintro e wd3 ⟨va3, rfl, hod3, hbd3⟩
      rw [HLl.out] at hod3; obtain ⟨oa, ca, rfl⟩ := hod3.shapeN (n := xs.length) (addL_len _ _ _ _)
      have hd3 : Below wr.heap.size wr wd3 := (by (repeat (first | exact bR _ _ | (refine bS ?_ _) | (refine bA ?_ _) | (refine bN ?_ _) | (refine bD ?_) | (refine bT ?_ hbd1) | (refine bT ?_ hbd2) | (refine bT ?_ hbd3))))
      have hsd3 := hd3.size
      have hsz3_ := hbd3.size
      (try simp at hsz3_)
      have f3_a := keep_cell hd3 (nl _) cx
      have f3_b := keep_cell hd3 (nl _) ex
      have f3_c := keep_cell hd3 (nl _) y0
      have f3_d := keep_cell hd3 (nl _) z0
      go_wp2_with fail
      clear hHeld
      have hHeld : (fun w' : World => w'.cell? ⟨bt, ft + i, none⟩ = some (.slice (some ⟨b1, f1, none⟩) (xs.length - i) q1) ∧ w'.cell? ⟨b1, f1 + j, none⟩ = some (.int .i64 (atT t i j)) ∧ w'.cell? ⟨bp, fp + i, none⟩ = some (.slice o3 xs.length c3) ∧ w'.cell? ⟨bq, fq + j, none⟩ = some (.slice o4 xs.length c4)) wd3 := by go_keep
      refine hK.out _ _ (fun _ => hHeld) ?_
      clear hK K
      try simp only [Act.put, sL]
      refine wpAnyK_oneL (i := 23) rfl (by kernel_rfl) (fun K hK => ?_)
      go_simp
      (try go_wp2_with fail)
      refine hK.out _ _ (fun h => absurd h (by decide)) ?_
      clear hK K
      try simp only [Act.put, sL]
      refine wpAnyK_done (by kernel_rfl) ?_ _
      go_wp2_with fail
      rw [HS.out] at hod3
      exact ⟨⟨j + 1, oa, ca, by omega, by go_num, rfl, hod3.mono (by omega), hB.trans (hd3.mono hBs)⟩, by simp [intOf]; omega⟩
    ·obtain rfl : j = xs.length - i := by omega
     rw [putTo_row rfl] at hO
     go_wp2
     exact ⟨⟨i + 1, _, _, by omega, by go_num, rfl, hO, hB⟩, by simp [intOf]; omega⟩
  ·obtain rfl : i = xs.length := by omega
   have i2 : ¬ (xs.length : Int) ≤ (xs.length : Int) - 1 := by omega
   go_wp2
   go_ret
   exact ⟨_, rfl, hO, B1.trans (hB.mono B1.size)⟩

end Go.Proofs.YtfpphfjlpgefaaaGreat
