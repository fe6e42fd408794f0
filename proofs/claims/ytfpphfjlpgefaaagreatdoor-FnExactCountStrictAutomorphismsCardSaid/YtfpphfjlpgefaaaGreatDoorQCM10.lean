/- Lemmas. -/
import Derived.Test.YtfpphfjlpgefaaaGreatDoorQCM6
import Derived.Test.YtfpphfjlpgefaaaGreatDoorQCG3
import Derived.Test.YtfpphfjlpgefaaaGreatDoorQCG7
import Derived.Test.YtfpphfjlpgefaaaGreatDoorQCG11
import Derived.Test.YtfpphfjlpgefaaaGreatDoorQCHomP
import Derived.Test.YtfpphfjlpgefaaaGreatDoorQCM9
import Derived.Test.YtfpphfjlpgefaaaGreatDoorQCG15
import Derived.Test.YtfpphfjlpgefaaaGreatDoorQCM2
set_option linter.unusedSimpArgs false
set_option linter.unusedVariables false
namespace Go.Proofs.YtfpphfjlpgefaaaGreatDoor
open Go.RowKit

theorem revP_store {m : Int} {n : Nat} {a : List Int} {k : Nat} :
    (revTo m n a (k + 1)).set (k + 2) ((-(at0 (horn m n (revTo m n a (k + 1)) a) (k + 2) * invM m (at0 a 1) % m)) % m) = revTo m n a (k + 1 + 1) := by
  rw [neg_mul_mod]; rfl
theorem rep_set1 {m : Int} {n : Nat} {a : List Int} : (List.replicate n (0 : Int)).set 1 (invM m (at0 a 1)) = revTo m n a (0 + 1) := rfl
theorem revP_end {m : Int} {n : Nat} {a : List Int} {k : Nat} (h : n = k + 2) : revTo m n a (k + 1) = revL m n a := by subst h; rfl

structure Cel1 (w : World) (b f : Nat) (x : Value) : Prop where
  get : w.cell? ⟨b, f, none⟩ = some x
theorem Cel1.below {B : Nat} {w w' : World} {b f : Nat} {x : Value} (h : Cel1 w b f x) (hb : Below B w w') (hB : w.heap.size ≤ B) : Cel1 w' b f x := ⟨keep_cell hb hB h.get⟩

set_option maxHeartbeats 4000000 in
set_option maxRecDepth 100000 in
theorem reverseS_c (m : Int) (v : Value) (xs : List Int) (w : World) (hv : RdI w v xs) (h1 : 2 ≤ xs.length) (hn : xs.length ≤ 1000) (hm : 2 ≤ m) (hm' : m ≤ 3000000000) (hx : ∀ x ∈ xs, 0 ≤ x ∧ x < m) :
    Calls Tryz.prog 51 #[.agg #[.int .i64 m, v]] w fun e w' => SVEnd w w' m (revL m xs.length xs) e := by
  obtain ⟨o, c, rfl, hmx, -⟩ := id hv
  have hml := hmx.1
  unfold maxLen at hmx
  obtain ⟨bx, fx, rfl, hcx⟩ := hv.cells (by omega)
  have cx : w.cell? ⟨bx, fx + 1, none⟩ = some (.int .i64 (at0 xs 1)) := hcx 1 _ (some_at0 (by omega))
  have lx := cell_lt cx
  have hxr := at0_range (by omega) hx 1
  obtain ⟨u, hu⟩ : ∃ u, u = invM m (at0 xs 1) := ⟨_, rfl⟩
  have hur : 0 ≤ u ∧ u < m := by rw [hu]; exact invM_range (by omega) _
  have HU := Lib.hid hu
  clear hcx hu
  go_enter Tryz.func51, Tryz.ntmps51
  go_wp2_with fail
  (have X0 := ((RB2.mk1 w  (.int .i64 m) (.slice (some ⟨bx, fx, none⟩) xs.length c) 53).1).below (w' := ((w.alloc (.cells #[.int .i64 m, .slice (some ⟨bx, fx, none⟩) xs.length c] 53)).alloc (.cells #[.int .i64 0, .slice none 0 0] 53))) (by (repeat (first | exact bR _ _ | (refine bS ?_ _) | (refine bA ?_ _) | (refine bN ?_ _) | (refine bD ?_)))) (Nat.le_refl _); have R0 := ((RB2.mk2 w (.cells #[.int .i64 m, .slice (some ⟨bx, fx, none⟩) xs.length c] 53) (.int .i64 0) (.slice none 0 0) 53)).below (w' := ((w.alloc (.cells #[.int .i64 m, .slice (some ⟨bx, fx, none⟩) xs.length c] 53)).alloc (.cells #[.int .i64 0, .slice none 0 0] 53))) (by (repeat (first | exact bR _ _ | (refine bS ?_ _) | (refine bA ?_ _) | (refine bN ?_ _) | (refine bD ?_)))) (Nat.le_refl _); have B0 : Below w.heap.size w ((w.alloc (.cells #[.int .i64 m, .slice (some ⟨bx, fx, none⟩) xs.length c] 53)).alloc (.cells #[.int .i64 0, .slice none 0 0] 53)) := (by (repeat (first | exact bR _ _ | (refine bS ?_ _) | (refine bA ?_ _) | (refine bN ?_ _) | (refine bD ?_)))); have hv0 := hv.below (w' := ((w.alloc (.cells #[.int .i64 m, .slice (some ⟨bx, fx, none⟩) xs.length c] 53)).alloc (.cells #[.int .i64 0, .slice none 0 0] 53))) (by (repeat (first | exact bR _ _ | (refine bS ?_ _) | (refine bA ?_ _) | (refine bN ?_ _) | (refine bD ?_)))) (Nat.le_refl _); generalize (w.alloc (.cells #[.int .i64 m, .slice (some ⟨bx, fx, none⟩) xs.length c] 53)).alloc (.cells #[.int .i64 0, .slice none 0 0] 53) = w0 at X0 R0 B0 hv0 ⊢)
  have hzl : w.heap.size + 1 < w0.heap.size := R0.1.lt
  have cx0 := keep_cell B0 (Nat.le_refl _) cx
  have lx0 := cell_lt cx0
  have cx0c : Cel1 w0 bx (fx + 1) (.int .i64 (at0 xs 1)) := ⟨cx0⟩
  go_cut [3, 4] (fun sb su u => ∃ (wz : World) (b : Nat) (oz : Option Addr) (cz : Nat), wz = u ∧ sb = .pointer (some ⟨b, 0, none⟩) ∧ su = .int .i64 (invM m (at0 xs 1)) ∧ w0.heap.size ≤ b ∧ RB2 u b (.int .i64 m) (.slice oz xs.length cz) ∧ OwI u w0.heap.size (.slice oz xs.length cz) (List.replicate xs.length 0) ∧ (∀ k, (Value.slice oz xs.length cz).ownBlock = some k → k ≠ b) ∧ Below w0.heap.size w0 u)
  case first =>
    have hd0 : Below w0.heap.size w0 w0.drew := (Below.refl _ _).drew
    have hsd0 := hd0.size
    have hlb_X0 := X0.lt
    have i0 : (0 : Int) < (xs.length : Int) := by omega
    have i1 : (1 : Int) < (xs.length : Int) := by omega
    have i2 : 1 < xs.length := by omega
    obtain ⟨q0_X0_0, q0_X0_1⟩ := X0.below (Below.refl w0.heap.size w0) (Nat.le_refl _)
    have q0_cx := (((cx0c).below (Below.refl w0.heap.size w0) (Nat.le_refl _))).get
    have hne0_X0 : w0.heap.size ≠ w.heap.size := by omega
    have hne0_bx_ : w0.heap.size ≠ bx := by omega
    go_region_held3 (fun w' => w'.cell? ⟨w.heap.size, 0, none⟩ = some (.int .i64 m) ∧ w'.cell? ⟨w.heap.size, 1, none⟩ = some (.slice (some ⟨bx, fx, none⟩) xs.length c) ∧ w'.cell? ⟨bx, fx + 1, none⟩ = some (.int .i64 (at0 xs 1))) (go_keep)
      (first
        | (go_at_call 68; refine (degreeS_c m (some ⟨bx, fx, none⟩) xs.length c _ hml).mono ?_; rintro e wd1 ⟨rfl, hbd1⟩; have hd1 : Below w0.heap.size w0 wd1 := (by (repeat (first | exact bR _ _ | (refine bS ?_ _) | (refine bA ?_ _) | (refine bN ?_ _) | (refine bD ?_) | (refine bT ?_ hbd1)))); have hsd1 := hd1.size; have hsz1_ := hbd1.size; (try simp at hsz1_); obtain ⟨q1_X0_0, q1_X0_1⟩ := X0.below hd1 (Nat.le_refl _); have q1_cx := (((cx0c).below hd1 (Nat.le_refl _))).get; have hne1_X0 : wd1.heap.size ≠ w.heap.size := (by omega); have hne1_bx_ : wd1.heap.size ≠ bx := (by omega); (try (have RZ := RZ.below hbd1 (Nat.le_refl _))); (try (have RZ := (show RB2 (w0.alloc (.cells #[.int .i64 0, .slice none 0 0] 53)).drew w0.heap.size (.int .i64 0) (.slice none 0 0) from RB2.mk1 w0 (.int .i64 0) (.slice none 0 0) _).below hbd1 (Nat.le_refl _))); (try (obtain ⟨⟨z1_0, z1_1⟩, zf1⟩ := id RZ)))
        | (go_at_call 67; refine (zero_c m ((xs.length : Int) - 1) xs.length _ (by omega) (by omega)).mono ?_; rintro e wd2 ⟨vz2, rfl, hod2, hbd2⟩; obtain ⟨oz, cz, rfl⟩ := hod2.shapeN (n := xs.length) (by simp); have hd2 : Below w0.heap.size w0 wd2 := (by (repeat (first | exact bR _ _ | (refine bS ?_ _) | (refine bA ?_ _) | (refine bN ?_ _) | (refine bD ?_) | (refine bT ?_ hbd1) | (refine bT ?_ hbd2)))); have hsd2 := hd2.size; have hsz2_ := hbd2.size; (try simp at hsz2_); obtain ⟨q2_X0_0, q2_X0_1⟩ := X0.below hd2 (Nat.le_refl _); have q2_cx := (((cx0c).below hd2 (Nat.le_refl _))).get; have hne2_X0 : wd2.heap.size ≠ w.heap.size := (by omega); have hne2_bx_ : wd2.heap.size ≠ bx := (by omega); (try (have RZ := RZ.below hbd2 (Nat.le_refl _))); (try (have RZ := (show RB2 (wd1.alloc (.cells #[.int .i64 0, .slice none 0 0] 53)) wd1.heap.size (.int .i64 0) (.slice none 0 0) from RB2.mk1 wd1 (.int .i64 0) (.slice none 0 0) _).below hbd2 (Nat.le_refl _))); (try (obtain ⟨⟨z2_0, z2_1⟩, zf2⟩ := id RZ)))
        | (go_at_call 69; refine (inverse_c m (at0 xs 1) _ hm (by omega) (by omega) (by omega)).mono ?_; rintro e w' ⟨rfl, rfl⟩))
    all_goals
      go_wp2_with fail
      go_meet
      have hL := hod2.lt
      refine ⟨_, _, oz, cz, rfl, rfl, rfl, ?_, ?_, ?_, ?_, ?_⟩
      · first | omega | (simp; done) | (simp; omega)
      · first | exact RB2.mk1 _ _ _ _ | exact RB2.put RZ _ _
      · first | exact (hod2.alloc _).mono (by first | (simp; done) | (simp; omega) | omega) | exact ((hod2.low (by first | (simp; done) | (simp; omega) | omega) _).low (by first | (simp; done) | (simp; omega) | omega) _).mono (by first | (simp; done) | (simp; omega) | omega)
      · intro k hk; have hq := hL k hk; first | omega | (simp at hq; omega)
      · (repeat (first | exact bR _ _ | (refine bS ?_ _) | (refine bA ?_ _) | (refine bN ?_ _) | (refine bD ?_) | (refine bT ?_ hbd1) | (refine bT ?_ hbd2)))
  case rest =>
  obtain ⟨w1, bo, oz, cz, rfl, rfl, rfl, hbW, O, how, hneb, hb⟩ := hcut
  obtain ⟨g, rfl, hgl, hgl'⟩ := how.row (by omega)
  have hgb := hneb g rfl
  clear hneb
  rw [← HU.out]
  (have X1 := X0.below hb (Nat.le_refl _); have R1 := R0.below hb (Nat.le_refl _); have hv1 := hv0.below hb (Nat.le_refl _); have B1 := B0.trans (hb.mono B0.size))
  have hc0 := how.cell (k := 1) (rep_get xs.length 1 0 (by omega))
  have hf0 := how.fz 1
  have hOz := how.put 1 u
  rw [HU.out, rep_set1] at hOz
  have Oz := O.grown (gr_put (World.grownBy.refl w1 (some g)) 1 (.int .i64 (invM m (at0 xs 1)))) (by simp; omega)
  have hbz := below_put hb (g := g) (k := 1) (by omega) (.int .i64 (invM m (at0 xs 1)))
  rw [← HU.out] at hOz Oz hbz
  obtain ⟨z0, z1⟩ := id O.1
  have i0 : (0 : Int) < (xs.length : Int) := by omega
  have i1 : (1 : Int) < (xs.length : Int) := by omega
  have i2 : 1 < xs.length := by omega
  have HO := Lib.hid hOz
  have OZ := Lib.hid Oz
  clear how O hOz Oz hb
  go_wp2_with fail
  clear hc0 hf0 z0 z1
  have hOz := HO.out
  have Oz := OZ.out
  clear HO OZ
  generalize w1.setCell ⟨g, 1, none⟩ (.int .i64 u) = w2 at hOz Oz hbz ⊢
  go_loopw [5, 6] (fun i _ wr => ∃ k : Nat, k + 2 ≤ xs.length ∧ i = .int .i64 ((k : Int) + 2) ∧ OwI wr w0.heap.size (.slice (some ⟨g, 0, none⟩) xs.length cz) (revTo m xs.length xs (k + 1)) ∧ RB2 wr bo (.int .i64 m) (.slice (some ⟨g, 0, none⟩) xs.length cz) ∧ Below w0.heap.size w0 wr) (fun i _ _ => xs.length - (intOf i).toNat)
  case atStart => exact ⟨0, by omega, by go_num, hOz, Oz, hbz⟩
  case round =>
    clear hOz Oz hbz X1 R1 hv1 B1
    obtain ⟨k, hk, rfl, hO, OO, hbr⟩ := hrel
    have B0s := B0.size
    have hbrs := hbr.size
    have Br := B0.trans (hbr.mono B0s)
    have Xr := X0.below hbr (Nat.le_refl _)
    have hvr := hv0.below hbr (Nat.le_refl _)
    have Rr := R0.below hbr (Nat.le_refl _)
    have lXr := Xr.lt
    obtain ⟨x0, x1⟩ := id Xr
    go_wp2_with fail
    refine (degreeS_c m _ _ c _ hml).mono ?_
    rintro e w3 ⟨rfl, hb3⟩
    clear x0 x1
    have hb3s := hb3.size
    have X3 := Xr.below hb3 (Nat.le_refl _)
    have hv3 := hvr.below hb3 (Nat.le_refl _)
    have O3 := OO.below hb3 (Nat.le_refl _)
    have R3 := Rr.below hb3 (Nat.le_refl _)
    have hO3 := hO.below hb3
    have hbr3 := hbr.trans (hb3.mono hbrs)
    have B3 := B0.trans (hbr3.mono B0s)
    have B3s := B3.size
    clear hO OO Xr hvr Rr hbr Br hb3 lXr
    by_cases hlt : k + 2 < xs.length
    · have i3 : (0 : Int) ≤ (k : Int) + 2 := by omega
      have i4 : (k : Int) + 2 ≤ (xs.length : Int) - 1 := by omega
      have i5 : (k : Int) + 2 < (xs.length : Int) := by omega
      have i6 : ((k : Int) + 2).toNat = k + 2 := by omega
      have hQl : ((horn m xs.length (revTo m xs.length xs (k + 1)) xs)).length = xs.length := by first | exact timesL_len _ _ _ _ | exact horn_len _ _ _ _
      have hQr : ∀ x ∈ (horn m xs.length (revTo m xs.length xs (k + 1)) xs), 0 ≤ x ∧ x < m := by first | exact timesL_range (by omega) | exact horn_range (by omega)
      have HS : Hid (((revTo m xs.length xs (k + 1))).set (k + 2) ((-(at0 (horn m xs.length (revTo m xs.length xs (k + 1)) xs) (k + 2) * invM m (at0 xs 1) % m)) % m) = _) := Lib.hid (revP_store)
      have HLl := Lib.hid (show ((revTo m xs.length xs (k + 1))).length = xs.length from (revTo_len _ _ _ _))
      have HRl := Lib.hid (show ∀ x ∈ (revTo m xs.length xs (k + 1)), 0 ≤ x ∧ x < m from (revTo_range (by omega) _ _ _))
      obtain ⟨q, hq⟩ : ∃ q, q = (horn m xs.length (revTo m xs.length xs (k + 1)) xs) := ⟨_, rfl⟩
      rw [← hq] at hQl hQr HS
      rw [← HU.out] at HS
      have HQ := Lib.hid hq
      clear hq
      have hqr := at0_range (show 0 < m by omega) hQr (k + 2)
      have O3b := O3.1
      obtain ⟨x0, x1⟩ := id X3
      obtain ⟨z0, z1⟩ := id O3b
      have HQ2 := HQ
      generalize (revTo m xs.length xs (k + 1)) = l at hO3 HS HLl HRl HQ
      go_wp2_with fail
      refine (compose_c m m _ _ xs l _ hv3 hO3.rd (by rw [HLl.out]) (by omega) (by omega) hm (by omega) hx HRl.out).mono ?_
      rintro e w4 ⟨vq, rfl, hoq, hb4⟩
      rw [← HQ.out] at hoq
      clear x0 x1 z0 z1
      obtain ⟨oq, cq, rfl⟩ := hoq.shapeN (n := xs.length) hQl
      obtain ⟨gq, rfl, hgq, hgq'⟩ := hoq.row (by omega)
      have hcq := hoq.cell (k := k + 2) (some_at0 (show k + 2 < q.length by omega))
      have X4 := X3.below hb4 (Nat.le_refl _)
      have O4 := O3.below hb4 (Nat.le_refl _)
      have hO4 := hO3.below hb4
      have hbr4 := hbr3.trans (hb4.mono hbr3.size)
      have hc9 := hO4.cell (k := k + 2) (some_at0 (show k + 2 < l.length by rw [HLl.out]; omega))
      have hf9 := hO4.fz (k + 2)
      have Hn := Lib.hid hO4
      clear hoq hO3 hO4 O3 X3
      obtain ⟨x0, x1⟩ := id X4
      obtain ⟨⟨z0, z1⟩, zf⟩ := id O4
      have hmu := mod_lt' (a := at0 q (k + 2) * u) (show 0 < m by omega)
      have hfd : ∀ w : World, (Instr.field 53 (.agg #[.int .i64 m, .slice (some ⟨gq, 0, none⟩) xs.length cq]) 1).run Tryz.prog w = .ok (.slice (some ⟨gq, 0, none⟩) xs.length cq) w := fun _ => by kernel_rfl
      have hwr : IntKind.i64.wrap (-(at0 q (k + 2) * u % m)) = -(at0 q (k + 2) * u % m) := IntWalk.i64_in _ (by omega)
      go_wp2_with fail
      go_still_tail 13, (by kernel_rfl)
      still_call (stillC (mul_c m (at0 q (k + 2)) u _ (by omega) (by omega) (by omega) (by omega) (by omega) (by omega)))
      repeat still_step
      still_call (stillC (mod_c (-(at0 q (k + 2) * u % m)) m _ (by omega) (by omega) (by omega) (by omega)))
      repeat still_step
      refine wpStill_nil ?_
      change wpList _ _ _ _ _ w4.drew
      have hOn := Hn.out.put (k + 2) ((-(at0 q (k + 2) * u % m)) % m)
      rw [HS.out] at hOn
      have On := O4.grown (gr_put (World.grownBy.refl w4 (some g)) (k + 2) (.int .i64 ((-(at0 q (k + 2) * u % m)) % m))) (by simp; omega)
      have hbn := below_put hbr4 (g := g) (k := k + 2) (by omega) (.int .i64 ((-(at0 q (k + 2) * u % m)) % m))
      go_wp2
      exact ⟨⟨k + 1, by omega, by go_num, hOn, On, hbn.drew⟩, by simp [intOf]; omega⟩
    · have hk' : xs.length = k + 2 := by omega
      rw [revP_end hk'] at hO3
      have i1 : ¬ (k : Int) + 2 ≤ (xs.length : Int) - 1 := by omega
      clear hk'
      obtain ⟨⟨z0, z1⟩, zf⟩ := id O3
      obtain ⟨⟨r0, r1⟩, rf⟩ := id R3
      have lR3 := R3.1.lt
      go_wp2
      refine bodyPost_ret (v := .agg #[.int .i64 m, .slice (some ⟨g, 0, none⟩) xs.length cz]) (by simp [results, Tryz.results51, go_sem, r0, r1]) rfl ⟨_, rfl, ?_, ?_⟩
      · exact ((hO3.low (by first | (simp; done) | (simp; omega) | omega) _).low (by first | (simp; done) | (simp; omega) | omega) _).mono (by first | (simp; done) | (simp; omega) | omega)
      · (repeat (first | exact bR _ _ | (refine bS ?_ _) | (refine bA ?_ _) | (refine bN ?_ _) | (refine bD ?_) | (refine bT ?_ B3)))
end Go.Proofs.YtfpphfjlpgefaaaGreatDoor
/- A series in two variables is a law if sums of the three variables are associative. No program stands here. -/
set_option linter.unusedSimpArgs false
set_option linter.unusedVariables false
namespace Go.Proofs.YtfpphfjlpgefaaaGreatDoor
open Rg

def cst {T : Type} [Rg T] (a : T) : Nat → T := fun i => if i = 0 then a else zz
def mono {T : Type} [Rg T] (p : Nat) : Nat → T := fun i => if i = p then oo else zz
section gen
variable {T : Type} [Rg T]
theorem cst_ml (a b : T) : (ml (cst a) (cst b) : Nat → T) = cst (ml a b) := by
  funext i
  show cv (fun k => if k = 0 then a else zz) (cst b) i = _
  rw [cv_ic]
  unfold cst
  by_cases h : i = 0
  · rw [if_pos h, if_pos h]
  · rw [if_neg h, if_neg h, ml_zz]
theorem cst_pw (a : T) (k : Nat) : (pw (cst a) k : Nat → T) = cst (pw a k) := by
  induction k with
  | zero => rfl
  | succ k ih => show ml (pw (cst a) k) (cst a) = _; rw [ih, cst_ml]; rfl
theorem mono_1 (f : Nat → T) : (ml f (mono 1) : Nat → T) = fun i => if i = 0 then zz else f (i - 1) := by
  funext i
  cases i with
  | zero =>
    show cv f (mono 1) 0 = _
    rw [cv_0]
    show ml (f 0) (if 0 = 1 then oo else zz) = _
    rw [if_neg (by omega), ml_zz, if_pos rfl]
  | succ i =>
    show cv f (mono 1) (i + 1) = _
    rw [cv_last]
    have e : sh (mono 1 : Nat → T) = fun k => if k = 0 then oo else zz := by
      funext k
      show (if k + 1 = 1 then (oo : T) else zz) = _
      by_cases h : k = 0
      · rw [if_pos (by omega), if_pos h]
      · rw [if_neg (by omega), if_neg h]
    rw [e, cv_oo]
    show ad (f i) (ml (f (i + 1)) (if 0 = 1 then oo else zz)) = _
    rw [if_neg (by omega), ml_zz, ad_zz, if_neg (by omega)]; rfl
theorem mono_pw (k : Nat) : (pw (mono 1) k : Nat → T) = mono k := by
  induction k with
  | zero => rfl
  | succ k ih =>
    show ml (pw (mono 1) k) (mono 1) = _
    rw [ih, mono_1]
    funext i
    show (if i = 0 then zz else if i - 1 = k then (oo : T) else zz) = if i = k + 1 then oo else zz
    by_cases h : i = 0
    · rw [if_pos h, if_neg (by omega)]
    · rw [if_neg h]
      by_cases h' : i = k + 1
      · rw [if_pos (by omega), if_pos h']
      · rw [if_neg (by omega), if_neg h']
theorem mono_cst (p : Nat) (b : T) (i : Nat) : (ml (mono p) (cst b) : Nat → T) i = if i = p then b else zz := by
  rw [ml_comm]
  show cv (fun k => if k = 0 then b else zz) (mono p) i = _
  rw [cv_ic]
  show ml b (if i = p then oo else zz) = _
  by_cases h : i = p
  · rw [if_pos h, if_pos h, ml_oo]
  · rw [if_neg h, if_neg h, ml_zz]
theorem lo_cst {m : Int} {k : Nat} {a : T} (h : lo m k a) : lo m k (cst a) := fun i => by
  by_cases hi : i = 0
  · subst hi; exact h
  · show lo m (k - i) (if i = 0 then a else zz)
    rw [if_neg hi]; exact lo_zz _ _
theorem lo_mono (m : Int) : lo m 1 (mono 1 : Nat → T) := fun i => by
  by_cases hi : i = 0
  · subst hi
    show lo m 1 (if 0 = 1 then (oo : T) else zz)
    rw [if_neg (by omega)]; exact lo_zz _ _
  · rw [show 1 - i = 0 by omega]; exact lo_0 _ _
theorem sm_ite' {n k : Nat} (hk : k < n) (f : Nat → T) : sm n (fun i => if k = i then f i else zz) = f k := by
  induction n with
  | zero => omega
  | succ n ih =>
    show ad (sm n _) (if k = n then f n else zz) = f k
    by_cases h : k = n
    · subst h
      rw [if_pos rfl, sm_none (n := k) fun i hi => by rw [if_neg (by omega)], zz_ad]
    · rw [if_neg h, ih (by omega), ad_zz]
end gen

def X3 : Nat → Nat → Nat → Int := mono 1
def Y3 : Nat → Nat → Nat → Int := cst xP
def Z3 : Nat → Nat → Nat → Int := cst yP
theorem T3_at (n : Nat) (c : Nat → Nat → Nat → Int) {i : Nat} (hi : i < n) :
    (sm n (fun p => sm n (fun q => sm n (fun k => ml (ic (c p q k)) (ml (pw X3 p) (ml (pw Y3 q) (pw Z3 k)))))) : Nat → Nat → Nat → Int) i = ev2 n (c i) xP yP := by
  rw [ser_sm]
  have e : ∀ p, (sm n (fun q => sm n (fun k => ml (ic (c p q k)) (ml (pw X3 p) (ml (pw Y3 q) (pw Z3 k))))) : Nat → Nat → Nat → Int) i = if i = p then ev2 n (c p) xP yP else zz := by
    intro p
    rw [ser_sm]
    have e1 : ∀ q, (sm n (fun k => ml (ic (c p q k)) (ml (pw X3 p) (ml (pw Y3 q) (pw Z3 k)))) : Nat → Nat → Nat → Int) i = if i = p then sm n (fun k => ml (ic (c p q k)) (ml (pw xP q) (pw yP k))) else zz := by
      intro q
      rw [ser_sm]
      have e2 : ∀ k, (ml (ic (c p q k)) (ml (pw X3 p) (ml (pw Y3 q) (pw Z3 k))) : Nat → Nat → Nat → Int) i = if i = p then ml (ic (c p q k)) (ml (pw xP q) (pw yP k)) else zz := by
        intro k
        rw [ser_icml]
        unfold X3 Y3 Z3
        rw [mono_pw, cst_pw, cst_pw, cst_ml, mono_cst]
        by_cases h : i = p
        · rw [if_pos h, if_pos h]
        · rw [if_neg h, if_neg h, ml_zz]
      rw [sm_congr fun k _ => e2 k]
      by_cases h : i = p
      · rw [if_pos h]; exact sm_congr fun k _ => by rw [if_pos h]
      · rw [if_neg h]; exact sm_none fun k _ => by rw [if_neg h]
    rw [sm_congr fun q _ => e1 q]
    by_cases h : i = p
    · rw [if_pos h, ev2_sum]; exact sm_congr fun q _ => by rw [if_pos h]
    · rw [if_neg h]; exact sm_none fun q _ => by rw [if_neg h]
  rw [sm_congr fun p _ => e p, sm_ite' hi]
theorem lw_of_ev {m : Int} {n : Nat} (h2 : 2 ≤ n) {F : Nat → Nat → Int} (h0 : F 0 0 = 0) (hu : ∀ i, i < n → F i 0 % m = (if i = 1 then 1 else 0) % m) (hs : ∀ i j, i + j < n → F i j % m = F j i % m)
    (ha : eqv m n (ev2 n F (ev2 n F X3 Y3) Z3) (ev2 n F X3 (ev2 n F Y3 Z3))) : Lw m n F := by
  refine ⟨h2, h0, hu, hs, fun p q k hpq => ?_⟩
  have lX : lo m 1 X3 := lo_mono m
  have lY : lo m 1 Y3 := lo_cst (lo_xP m)
  have lZ : lo m 1 Z3 := lo_cst (lo_yP m)
  have e1 : eqv m n (ev2 n F (ev2 n F X3 Y3) Z3) (sm n (fun i => ml (sm n (fun k => ml (ic (F i k)) (pw Z3 k))) (ev2 n (pw F i) X3 Y3))) :=
    sm_eqv fun i _ => eqv_mll _ (eqv_symm ((hm2 lX lY).pw F i))
  have e2 : eqv m n (ev2 n F X3 (ev2 n F Y3 Z3)) (sm n (fun p => ml (sm n (fun j => ml (ic (F p j)) (ev2 n (pw F j) Y3 Z3))) (pw X3 p))) :=
    sm_eqv fun p _ => eqv_mlr _ (sm_eqv fun j _ => eqv_mll _ (eqv_symm ((hm2 lY lZ).pw F j)))
  rw [three_sum n F (fun i => pw F i)] at e1
  rw [three_sum' n F (fun i => pw F i)] at e2
  have e := eqv_trans (eqv_symm e1) (eqv_trans ha e2)
  have h := eqv_ser e p
  rw [T3_at n (fun p q k => sm n (fun i => F i k * (pw F i : Nat → Nat → Int) p q)) (by omega), T3_at n (fun p q k => sm n (fun j => F p j * (pw F j : Nat → Nat → Int) q k)) (by omega)] at h
  have h' := eqv_trans (eqv_symm (eqv_le (ev2_self _) (show n - p ≤ n by omega))) (eqv_trans h (eqv_le (ev2_self _) (show n - p ≤ n by omega)))
  exact eqv2.1 h' q k (by omega)
end Go.Proofs.YtfpphfjlpgefaaaGreatDoor

/- What a logarithm determines; typical laws are laws. No program stands here. -/
set_option linter.unusedSimpArgs false
set_option linter.unusedVariables false
namespace Go.Proofs.YtfpphfjlpgefaaaGreatDoor
open Rg

def Tf (T : Type) [Rg T] : Prop := ∀ (c : Int) (k : Nat) (x : T), c ≠ 0 → lo 0 k (ml (ic c) x) → lo 0 k x
theorem tf_int : Tf Int := fun c k x hc h => by
  rcases h with h | h
  · exact .inl h
  · have h' : c * x = 0 := Int.zero_dvd.1 h
    rcases Int.mul_eq_zero.1 h' with e | e
    · exact absurd e hc
    · exact .inr (by rw [e]; exact Int.dvd_refl 0)
theorem tf_ser {T : Type} [Rg T] (H : Tf T) : Tf (Nat → T) := fun c k x hc h i => by
  have := h i
  rw [ser_icml] at this
  exact H c (k - i) (x i) hc this
section gen
variable {T : Type} [Rg T] {p : Nat} {l : Nat → Int}
theorem LQ_lateT (hp : 2 ≤ p) (l : Nat → Int) (M : Nat) {F e : T} {n : Nat} (hF : lo 0 1 F) (he : lo 0 (n + 1) e) : eqv 0 (n + 2) (LQ p l (M + 1) (ad F e)) (ad (LQ p l (M + 1) F) (ml (ic (l 0)) e)) := by
  unfold LQ
  rw [sm_first, sm_first]
  have e1 : eqv 0 (n + 2) (sm M (fun k => ml (ic (l (k + 1))) (pw (ad F e) (p ^ (k + 1))))) (sm M (fun k => ml (ic (l (k + 1))) (pw F (p ^ (k + 1))))) := by
    refine sm_eqv fun k _ => eqv_mll _ ?_
    have hq : 2 ≤ p ^ (k + 1) := by
      rw [Nat.pow_succ]
      exact Nat.le_trans (show 2 ≤ 1 * p by omega) (Nat.mul_le_mul_right p (Nat.one_le_pow k p (by omega)))
    obtain ⟨r, hr⟩ : ∃ r, p ^ (k + 1) = r + 2 := ⟨p ^ (k + 1) - 2, by omega⟩
    rw [hr]
    exact pw_late hF he r
  refine eqv_trans (eqv_ad eqv_rfl e1) (eqv_of ?_)
  rw [Nat.pow_zero, pw_1, pw_1, ml_ad]
  ac_rfl
theorem LQ_inj (tf : Tf T) (hp : 2 ≤ p) (h0 : l 0 ≠ 0) {M : Nat} {G H : T} (hG : lo 0 1 G) (hH : lo 0 1 H) {n : Nat} (h : eqv 0 n (LQ p l (M + 1) G) (LQ p l (M + 1) H)) : ∀ k, k ≤ n → eqv 0 k G H
  | 0, _ => lo_0 _ _
  | 1, _ => eqv_trans (eqv_lo hG) (eqv_symm (eqv_lo hH))
  | k + 2, hk => by
    have ih := LQ_inj tf hp h0 hG hH h (k + 1) (by omega)
    have e : G = ad H (ad G (ng H)) := by rw [show ad H (ad G (ng H)) = ad (ad H (ng H)) G by ac_rfl, ad_ng, zz_ad]
    have h1 := LQ_lateT hp l M hH (show lo 0 (k + 1) (ad G (ng H)) from ih)
    rw [← e] at h1
    have h2 := eqv_trans (eqv_symm h1) (eqv_le h hk)
    refine tf (l 0) (k + 2) _ h0 ?_
    have h3 : lo 0 (k + 2) (ad (ad (LQ p l (M + 1) H) (ml (ic (l 0)) (ad G (ng H)))) (ng (LQ p l (M + 1) H))) := h2
    rwa [show ad (ad (LQ p l (M + 1) H) (ml (ic (l 0)) (ad G (ng H)))) (ng (LQ p l (M + 1) H)) = ad (ad (LQ p l (M + 1) H) (ng (LQ p l (M + 1) H))) (ml (ic (l 0)) (ad G (ng H))) by ac_rfl, ad_ng, zz_ad] at h3
end gen
theorem ev2_swap {m : Int} {n : Nat} (F : Nat → Nat → Int) : eqv m n (ev2 n F yP xP) (fun i j => F j i) := by
  refine eqv2.2 fun i j hij => ?_
  rw [ev2_sum]
  have e1 : (sm n (fun a => sm n (fun b => ml (ic (F a b)) (ml (pw yP a) (pw xP b)))) : Nat → Nat → Int) i j = sumN n (fun a => sumN n (fun b => F a b * (if a = j ∧ b = i then 1 else 0))) := by
    rw [sumN_sm, ser_sm, ser_sm]
    refine sm_congr fun a _ => ?_
    rw [sumN_sm, ser_sm, ser_sm]
    refine sm_congr fun b _ => ?_
    rw [icml2]
    congr 1
    rw [ml_comm, show pw xP b = onx (pw xS b) from (onx_pw _ _).symm, show pw yP a = ony (pw xS a) from (ony_pw _ _).symm, onx_ony, pw_xS, pw_xS]
    unfold mon
    by_cases ha : a = j
    · subst ha
      by_cases hb : b = i
      · subst hb; simp
      · rw [if_neg (show ¬ i = b from fun e => hb e.symm), if_neg (show ¬ (a = a ∧ b = i) from fun e => hb e.2), Int.zero_mul]
    · rw [if_neg (show ¬ j = a from fun e => ha e.symm), if_neg (show ¬ (a = j ∧ b = i) from fun e => ha e.1), Int.mul_zero]
  rw [e1, sumN_only (i := j) (by omega) (fun a _ hne => sumN_zero fun b _ => by rw [if_neg (fun e => hne e.1), Int.mul_zero]),
    sumN_only (i := i) (by omega) (fun b _ hne => by rw [if_neg (fun e => hne e.2), Int.mul_zero]), if_pos ⟨rfl, rfl⟩, Int.mul_one]
theorem Lw.congr {m : Int} {n : Nat} {F G : Nat → Nat → Int} (L : Lw m n F) (h0 : G 0 0 = 0) (h : ∀ i j, i + j < n → F i j % m = G i j % m) : Lw m n G := by
  have e := eqv2.2 h
  have h2 := L.two
  have lF : lo m 1 F := lo_of0 L.zer
  have lG : lo m 1 G := lo_of0 h0
  refine ⟨L.two, h0, fun i hi => by rw [← h i 0 (by omega)]; exact L.un i hi, fun i j hij => by rw [← h i j hij, ← h j i (by omega)]; exact L.sy i j hij, fun p q k hpq => ?_⟩
  have e1 : sm n (fun i => F i k * (pw F i : Nat → Nat → Int) p q) % m = sm n (fun i => G i k * (pw G i : Nat → Nat → Int) p q) % m := by
    rw [← sumN_sm, ← sumN_sm]
    refine sumN_mod fun i hi => ?_
    by_cases hik : i + k < n
    · exact emod_congr_mul (h i k hik) (eqv2.1 (pw_eqv e i) p q (by omega))
    · have z1 : (pw F i : Nat → Nat → Int) p q % m = 0 % m := eqv2.1 (eqv_lo (pw_lo lF i)) p q (by omega)
      have z2 : (pw G i : Nat → Nat → Int) p q % m = 0 % m := eqv2.1 (eqv_lo (pw_lo lG i)) p q (by omega)
      rw [emod_congr_mul (rfl : F i k % m = _) z1, emod_congr_mul (rfl : G i k % m = _) z2, Int.mul_zero, Int.mul_zero]
  have e2 : sm n (fun j => F p j * (pw F j : Nat → Nat → Int) q k) % m = sm n (fun j => G p j * (pw G j : Nat → Nat → Int) q k) % m := by
    rw [← sumN_sm, ← sumN_sm]
    refine sumN_mod fun j hj => ?_
    by_cases hjp : p + j < n
    · exact emod_congr_mul (h p j hjp) (eqv2.1 (pw_eqv e j) q k (by omega))
    · have z1 : (pw F j : Nat → Nat → Int) q k % m = 0 % m := eqv2.1 (eqv_lo (pw_lo lF j)) q k (by omega)
      have z2 : (pw G j : Nat → Nat → Int) q k % m = 0 % m := eqv2.1 (eqv_lo (pw_lo lG j)) q k (by omega)
      rw [emod_congr_mul (rfl : F p j % m = _) z1, emod_congr_mul (rfl : G p j % m = _) z2, Int.mul_zero, Int.mul_zero]
  rw [← e1, ← e2]
  exact L.as p q k hpq
end Go.Proofs.YtfpphfjlpgefaaaGreatDoor
