/- Lemmas. -/
import Derived.Test.YtfpphfjlpgefaaaGreatqM26
import Derived.Test.YtfpphfjlpgefaaaGreatqM27
import Derived.Test.YtfpphfjlpgefaaaGreatqG17
import Derived.Test.YtfpphfjlpgefaaaGreatqG3
import Derived.Test.YtfpphfjlpgefaaaGreatqG1
import Derived.Test.YtfpphfjlpgefaaaGreatqM6
import Derived.Test.YtfpphfjlpgefaaaGreatqM14
import Derived.Test.YtfpphfjlpgefaaaGreatqG9
set_option maxHeartbeats 4000000
set_option maxRecDepth 100000
set_option linter.unusedSimpArgs false
set_option linter.unusedVariables false
namespace Go.Proofs.YtfpphfjlpgefaaaGreat
open Go.RowKit

def qCB (m : Int) (n : Nat) (a : Li) : Tb := qAK m n (qDZ n a) (qAc m n a)
theorem qH0 (m : Int) (n : Nat) (a : Li) : (qCB m n a).length = n := qE6 _ _ _ _
theorem qKK {m : Int} (hm : 0 < m) {n : Nat} {a : Li} (hr : ∀ x ∈ a, 0 ≤ x ∧ x < m) (k : Int) : PlaT m n (axT n a k) := qB2 fun i j _ => by
 have h1 := qAG hm hr i
 have h2 := qAG hm hr j
 split <;> split <;> omega
theorem qQU {m : Int} (hm : 0 < m) {n : Nat} {a : Li} (hr : ∀ x ∈ a, 0 ≤ x ∧ x < m) : PlaT m n (qDZ n a) := qB2 fun i j _ => by
 have h1 := qAG hm hr i
 have h2 := qAG hm hr j
 split <;> split <;> omega
theorem qIV {m : Int} (hm : 0 < m) (n : Nat) (a : Li) : ∀ x ∈ qAc m n a, 0 ≤ x ∧ x < m := qFz hm n a _
theorem qEa (n : Nat) (a : Li) (k : Int) : (axT n a k).length = n := qA9 _ _

theorem qIx (m : Int) (n : Nat) (v : Value) (xs : Li) (w : World) (hl : xs.length = n) (hv : RdI w v xs) (h1 : 2 ≤ n) (hn : n ≤ 1000) (hm : 2 ≤ m) (hm' : m ≤ 1000000000000) (hx : ∀ x ∈ xs, 0 ≤ x ∧ x < m) (h0 : at0 xs 0 = 0) :
  Calls Tryz.prog 147 #[.agg #[.int .i64 m, v]] w fun e w' => qC9 w w' m (qCB m n xs) e := by
 subst hl
 obtain ⟨o, c, rfl, hmx, -⟩ := id hv
 unfold maxLen at hmx
 have HA0 := dd (qKK (m := m) (show 0 < m by omega) (n := xs.length) hx 0)
 have HA1 := dd (qKK (m := m) (show 0 < m by omega) (n := xs.length) hx 1)
 have HAd := dd (qNE (m := m) (n := xs.length) hx Oo h0)
 have HTw := dd (qQU (m := m) (show 0 < m by omega) (n := xs.length) hx)
 have HRl := dd (qGl m xs.length xs)
 have HRr := dd (qIV (m := m) (show 0 < m by omega) xs.length xs)
 have HLw := dd (show qAK m xs.length (qDZ xs.length xs) (qAc m xs.length xs) = qCB m xs.length xs from rfl)
 go_enter Tryz.func147, Tryz.ntmps147
 go_wp2_with fail
 (obtain ⟨w0, hw0⟩ : ∃ W : World, W = ((w.alloc (.cells #[.int .i64 m, .slice o xs.length c] 34)).alloc (.cells #[.int .i64 0, .slice none 0 0] 26)) := ⟨_, rfl⟩; have X0 := (RB2.mk1 w  (.int .i64 m) (.slice o xs.length c) 34).1.below (w' := w0) (bV hw0) (nl _); have R0 := (RB2.mk2 w (.cells #[.int .i64 m, .slice o xs.length c] 34) (.int .i64 0) (.slice none 0 0) 26).below (w' := w0) (bV hw0) (nl _); have B0 : Below w.heap.size w w0 := (bV hw0); have hv0 := hv.below (w' := w0) (bV hw0) (nl _); rw [← hw0]; clear hw0)
 have hd0 : Below w0.heap.size w0 w0.drew := (Below.refl _ _).drew
 have hsd0 := hd0.size
 have hrl := R0.1.lt
 have hneR_X0 : w.heap.size + 1 ≠ w.heap.size := Oo
 obtain ⟨⟨q0_R_0, q0_R_1⟩, qf0_R⟩ := R0.below (Below.refl w0.heap.size w0) (nl _)
 obtain ⟨q0_X0_0, q0_X0_1⟩ := X0.below (Below.refl w0.heap.size w0) (nl _)
 go_region_held3 (fun w' => w'.cell? ⟨w.heap.size, 0, none⟩ = some (.int .i64 m) ∧ w'.cell? ⟨w.heap.size, 1, none⟩ = some (.slice o xs.length c)) (go_keep)
  (first
   | (go_at_call 167; refine (qJ0 m _ xs _ ((hv0).below bZ (nl _)) Oo Oo Oo Oo hx).mono ?_; rintro e wd1 ⟨vr, rfl, hod1, hbd1⟩; obtain ⟨or, cr, rfl⟩ := hod1.shapeN (n := xs.length) HRl.out; have hd1 : Below w0.heap.size w0 wd1 := (bY1 hbd1); have hsd1 := hd1.size; have hsz1_ := hbd1.size; (try simp at hsz1_); obtain ⟨⟨q1_R_0, q1_R_1⟩, qf1_R⟩ := R0.below hd1; obtain ⟨q1_X0_0, q1_X0_1⟩ := X0.below hd1)
   | (go_at_call_of 192 (Value.int .i64 0); refine (qQE m xs.length _ xs _ ((hv0).below (bY1 hbd1) (nl _)) rfl Oo Oo).mono ?_; rintro e wd2 ⟨va, rfl, hod2, hbd2⟩; obtain ⟨oa, ca, rfl⟩ := hod2.shapeN (n := xs.length) (qEa _ _ _); have hd2 : Below w0.heap.size w0 wd2 := (bY2 hbd1 hbd2); have hsd2 := hd2.size; have hsz2_ := hbd2.size; (try simp at hsz2_); obtain ⟨⟨q2_R_0, q2_R_1⟩, qf2_R⟩ := R0.below hd2; obtain ⟨q2_X0_0, q2_X0_1⟩ := X0.below hd2)
   | (go_at_call_of 192 (Value.int .i64 1); refine (qQh m xs.length _ xs _ ((hv0).below (bY2 hbd1 hbd2) (nl _)) rfl Oo Oo).mono ?_; rintro e wd3 ⟨vb, rfl, hod3, hbd3⟩; obtain ⟨ob, cb, rfl⟩ := hod3.shapeN (n := xs.length) (qEa _ _ _); have hd3 : Below w0.heap.size w0 wd3 := (bY3 hbd1 hbd2 hbd3); have hsd3 := hd3.size; have hsz3_ := hbd3.size; (try simp at hsz3_); obtain ⟨⟨q3_R_0, q3_R_1⟩, qf3_R⟩ := R0.below hd3; obtain ⟨q3_X0_0, q3_X0_1⟩ := X0.below hd3)
   | (go_at_call 132; refine (qJi m m _ _ (axT xs.length xs 0) (axT xs.length xs 1) _ ((hod2.below (bY1 hbd3))).rd ((hod3.below bZ)).rd (by rw [qEa]; omega) (by rw [qEa]; omega) (by rw [qEa, qEa]) Oo Oo HA0.out.2 HA1.out.2).mono ?_; rintro e wd4 ⟨vp, rfl, hod4, hbd4⟩; rw [qEa, HAd.out] at hod4; obtain ⟨op, cp, rfl⟩ := hod4.shapeN (n := xs.length) HTw.out.1; have hd4 : Below w0.heap.size w0 wd4 := (bY4 hbd1 hbd2 hbd3 hbd4); have hsd4 := hd4.size; have hsz4_ := hbd4.size; (try simp at hsz4_); obtain ⟨⟨q4_R_0, q4_R_1⟩, qf4_R⟩ := R0.below hd4; obtain ⟨q4_X0_0, q4_X0_1⟩ := X0.below hd4)
   | (go_at_call 64; refine (qHp m m xs.length _ _ (qAc m xs.length xs) (qDZ xs.length xs) _ ((hod1.below (bY3 hbd2 hbd3 hbd4))).rd ((hod4.below bZ)).rd (by rw [HRl.out]; omega) (by rw [HRl.out]; omega) Oo Oo Oo Oo HRr.out HTw.out).mono ?_; rintro e wd5 ⟨vl, rfl, hod5, hbd5⟩; rw [HLw.out] at hod5; obtain ⟨ol, cl, rfl⟩ := hod5.shapeN (n := xs.length) (qH0 _ _ _); have hd5 : Below w0.heap.size w0 wd5 := (bY5 hbd1 hbd2 hbd3 hbd4 hbd5); have hsd5 := hd5.size; have hsz5_ := hbd5.size; (try simp at hsz5_); obtain ⟨⟨q5_R_0, q5_R_1⟩, qf5_R⟩ := R0.below hd5; obtain ⟨q5_X0_0, q5_X0_1⟩ := X0.below hd5))
 go_wp2
 refine bodyPost_ret (v := .agg #[.int .i64 m, .slice ol xs.length cl]) (by simp [results, Tryz.results147, go_sem, q5_R_0, q5_R_1]) rfl ⟨_, rfl, ?_, ?_⟩
 ·have hbsz := B0.size; exact ((hod5.low sz _).low sz _).mono sz
 ·have hbsz := B0.size
  (repeat (first | exact bR _ _ | (refine bS ?_ _) | (refine bA ?_ _) | (refine bN ?_ _) | (refine bD ?_) | (refine bT ?_ hbd1) | (refine bT ?_ hbd2) | (refine bT ?_ hbd3) | (refine bT ?_ hbd4) | (refine bT ?_ hbd5) | (refine bT ?_ B0)))


theorem P4.pow9 {p : Nat} (hp : P4 p) {k : Nat} (hk : k ≤ 10) : 1 ≤ p ^ k ∧ p ^ k ≤ 282475249 := by
 refine ⟨Nat.pos_of_ne_zero (by have := hp.pos; simp; omega), ?_⟩
 have h1 : p ^ k ≤ 7 ^ k := Nat.pow_le_pow_left hp.pos.2 k
 have h2 : 7 ^ k ≤ 7 ^ 10 := Nat.pow_le_pow_right Oo hk
 have h3 : 7 ^ 10 = 282475249 := by decide
 omega

theorem qL7 (p i j n c bp bq : Nat) (m : Int) (o : Option Addr) (t : Tb) (w : World) (hp : P4 p) (hij : i + j < n) (hn : n ≤ 11) (hm : 1 ≤ m) (hm' : m ≤ 1000000000000) (ht : PlaT m n t)
  (hbp : w.cell? ⟨bp, 0, none⟩ = some (.int .i64 p)) (hbq : Box2 w bq (.int .i64 m) (.slice o n c)) (hv : RdT w (.slice o n c) t) :
  Calls Tryz.prog 150 #[.int .i64 i, .int .i64 j, .pointer (some ⟨bp, 0, none⟩), .pointer (some ⟨bq, 0, none⟩)] w fun e w' => e = .returned (.int .i64 (atT t i j / ((p ^ (i + j - 1) : Nat) : Int))) ∧ w = w' := by
 have hp2 := hp.pos
 have e1 : IntKind.i64.wrap ((i : Int) + (j : Int)) = (i : Int) + (j : Int) := IntWalk.i64_in _ Oo
 have e2 : IntKind.i64.wrap ((i : Int) + (j : Int) - 1) = (i : Int) + (j : Int) - 1 := IntWalk.i64_in _ Oo
 go_enter Tryz.func150, Tryz.ntmps150
 go_wp2_with fail
 go_loop [7, 12] (fun sd sk => ∃ k : Nat, k ≤ i + j - 1 ∧ sk = .int .i64 k ∧ sd = .int .i64 ((p ^ k : Nat) : Int)) (fun _ sk => 10 - (intOf sk).toNat)
 case atStart => exact ⟨0, Nat.zero_le _, rfl, rfl⟩
 case round =>
  obtain ⟨k, hk, rfl, rfl⟩ := hrel
  by_cases hlt : k < i + j - 1
  ·have i1 : (k : Int) < (i : Int) + (j : Int) - 1 := Oo; have hpk := hp.pow9 (show k + 1 ≤ 10 by omega)
   have e3 : IntKind.i64.wrap (((p ^ k : Nat) : Int) * (p : Int)) = ((p ^ (k + 1) : Nat) : Int) := by
    have h : ((p ^ k : Nat) : Int) * (p : Int) = ((p ^ (k + 1) : Nat) : Int) := by rw [Nat.pow_succ]; simp
    rw [h]; exact IntWalk.i64_in _ Oo
   have HK := dd hk; generalize hA : p ^ k = A at e3 ⊢; generalize hB : p ^ (k + 1) = B at e3 hpk; have HB := dd hB; clear hA hB
   go_wp2_with fail
   exact ⟨⟨k + 1, Oo, by go_num, by rw [HB.out]⟩, by simp [intOf]; omega⟩
  ·obtain rfl : k = i + j - 1 := Oo; have i1 : ¬ (((i + j - 1 : Nat) : Int) < (i : Int) + (j : Int) - 1) := Oo; have hpk := hp.pow9 (show i + j - 1 ≤ 10 by omega); obtain ⟨b0, b1⟩ := id hbq; obtain ⟨row, hr, hrl, hrj⟩ := ht.row (show i < n by omega); have rg := qBT ht hij; obtain ⟨bt, ft, rfl, -⟩ := hv.rows (by have := ht.1; omega); obtain ⟨o1, c1, cx, rx⟩ := hv.row hr; rw [hrl] at cx rx; obtain ⟨b2, f2, rfl, -⟩ := rx.cells Oo; have cc := rx.cell0 (hrj j Oo); have j1 : (i : Int) < (n : Int) := Oo; have j2 : (j : Int) < ((n - i : Nat) : Int) := Oo; obtain ⟨x, hxx⟩ : ∃ x, x = atT t i j := ⟨_, rfl⟩; rw [← hxx] at rg cc; have HX := dd hxx; clear hr hrj hxx; generalize hP : p ^ (i + j - 1) = P at hpk ⊢; have HP := dd hP; clear hP; have t6 : x.tdiv (P : Int) = x / (P : Int) := Int.tdiv_eq_ediv_of_nonneg rg.1; have kk1 : ((P : Int) == 0) = false := by simp only [beq_eq_false_iff_ne]; omega
   have kk2 : ¬ (P : Int) = 0 := Oo; have kk3 : ¬ (P : Int) = -1 := Oo; have q1 : 0 ≤ x / (P : Int) := Int.ediv_nonneg rg.1 Oo; have q2 : x / (P : Int) ≤ x := Int.ediv_le_self _ rg.1; have e7 : IntKind.i64.wrap (x / (P : Int)) = x / (P : Int) := IntWalk.i64_in _ Oo
   go_wp2_with fail
   go_ret; refine ⟨?_, rfl⟩
   show Ending.returned (.int .i64 (x / (P : Int))) = _
   rw [HX.out, ← HP.out]; simp
theorem qLu : qBf 150 := fun args w => Tryz.call150 args w
end Go.Proofs.YtfpphfjlpgefaaaGreat
