/- Lemmas of Ax. -/
import Derived.Test.YtoednonijmkbjaaGreatVPlaT
import Derived.Test.YtoednonijmkbjaaGreatVPlaV
import Derived.Test.YtoednonijmkbjaaGreatVG12
set_option linter.unusedSimpArgs false
set_option linter.unusedVariables false
namespace Go.Proofs.YtoednonijmkbjaaGreat
open Go.RowKit

def axF (xs : List Int) (k : Int) (i p q : Nat) : Int := if k = 0 then (if q = 0 ∧ p < i then at0 xs p else 0) else (if p = 0 ∧ q < i then at0 xs q else 0)
def axTo (n : Nat) (xs : List Int) (k : Int) (i : Nat) : List (List Int) := tri n (axF xs k i)
theorem axTo_0 (n : Nat) (xs : List Int) (k : Int) : zeroT n = axTo n xs k 0 := tri_ext fun i j _ => by
  unfold axF; split <;> rw [if_neg (by omega)]
theorem axTo_n {n : Nat} {xs : List Int} {k : Int} : axTo n xs k n = axT n xs k := tri_ext fun i j h => by
  unfold axF
  by_cases hk : k = 0
  · rw [if_pos hk, if_pos hk]
    by_cases hj : j = 0
    · rw [if_pos hj, if_pos ⟨hj, by omega⟩]
    · rw [if_neg hj, if_neg (by omega)]
  · rw [if_neg hk, if_neg hk]
    by_cases hi : i = 0
    · rw [if_pos hi, if_pos ⟨hi, by omega⟩]
    · rw [if_neg hi, if_neg (by omega)]
theorem axTo_row {n : Nat} {xs : List Int} {k : Int} {i p : Nat} (h : p < n) : (axTo n xs k i)[p]? = some (mk (n - p) (axF xs k i p)) := tri_get h
theorem axTo_set0 {n : Nat} {xs : List Int} {i : Nat} (h : i < n) : (axTo n xs 0 i).set i ((mk (n - i) (axF xs 0 i i)).set 0 (at0 xs i)) = axTo n xs 0 (i + 1) := by
  unfold axTo
  rw [tri_set (by omega)]
  refine tri_ext fun a b _ => ?_
  unfold axF
  rw [if_pos rfl, if_pos rfl]
  by_cases hab : a = i ∧ b = 0
  · rw [if_pos hab, if_pos (by omega), hab.1]
  · rw [if_neg hab]
    by_cases h2 : b = 0 ∧ a < i
    · rw [if_pos h2, if_pos (by omega)]
    · rw [if_neg h2, if_neg (by omega)]
theorem axTo_set1 {n : Nat} {xs : List Int} {i : Nat} (h : i < n) : (axTo n xs 1 i).set 0 ((mk (n - 0) (axF xs 1 i 0)).set i (at0 xs i)) = axTo n xs 1 (i + 1) := by
  unfold axTo
  rw [tri_set (by omega)]
  refine tri_ext fun a b _ => ?_
  unfold axF
  simp only [show ((1 : Int) = 0) = False by simp, if_false]
  by_cases hab : a = 0 ∧ b = i
  · rw [if_pos hab, if_pos (by omega), hab.2]
  · rw [if_neg hab]
    by_cases h2 : a = 0 ∧ b < i
    · rw [if_pos h2, if_pos (by omega)]
    · rw [if_neg h2, if_neg (by omega)]

set_option maxHeartbeats 2000000 in
set_option maxRecDepth 100000 in
theorem onAxis0_c (m : Int) (n : Nat) (v : Value) (xs : List Int) (w : World) (hv : RdI w v xs) (hl : xs.length = n) (h1 : 1 ≤ n) (hn : n ≤ 1000) :
    Calls Tryz.prog 129 #[.agg #[.int .i64 m, v], .int .i64 0] w fun e w' => PVEnd w w' m (axT n xs 0) e := by
  subst hl
  obtain ⟨o, c, rfl, hmx, -⟩ := id hv
  have hml := hmx.1
  unfold maxLen at hmx
  obtain ⟨bx, fx, rfl, -⟩ := hv.cells (by omega)
  go_enter Tryz.func129, Tryz.ntmps129
  go_wp2_with fail
  (have X0 := ((RB2.mk1 w  (.int .i64 m) (.slice (some ⟨bx, fx, none⟩) xs.length c) 28).1).below (w' := ((w.alloc (.cells #[.int .i64 m, .slice (some ⟨bx, fx, none⟩) xs.length c] 28)).alloc (.cells #[.int .i64 0, .slice none 0 0] 31))) (by (repeat (first | exact Below.refl _ _ | (refine Below.setCell ?_ (by first | (simp; done) | (simp; omega) | omega) _) | (refine Below.alloc ?_ (by first | (simp; done) | (simp; omega) | omega) _) | (refine below_drewN ?_ _) | (refine Below.drew ?_)))) (Nat.le_refl _); have R0 := ((RB2.mk2 w (.cells #[.int .i64 m, .slice (some ⟨bx, fx, none⟩) xs.length c] 28) (.int .i64 0) (.slice none 0 0) 31)).below (w' := ((w.alloc (.cells #[.int .i64 m, .slice (some ⟨bx, fx, none⟩) xs.length c] 28)).alloc (.cells #[.int .i64 0, .slice none 0 0] 31))) (by (repeat (first | exact Below.refl _ _ | (refine Below.setCell ?_ (by first | (simp; done) | (simp; omega) | omega) _) | (refine Below.alloc ?_ (by first | (simp; done) | (simp; omega) | omega) _) | (refine below_drewN ?_ _) | (refine Below.drew ?_)))) (Nat.le_refl _); have B0 : Below w.heap.size w ((w.alloc (.cells #[.int .i64 m, .slice (some ⟨bx, fx, none⟩) xs.length c] 28)).alloc (.cells #[.int .i64 0, .slice none 0 0] 31)) := (by (repeat (first | exact Below.refl _ _ | (refine Below.setCell ?_ (by first | (simp; done) | (simp; omega) | omega) _) | (refine Below.alloc ?_ (by first | (simp; done) | (simp; omega) | omega) _) | (refine below_drewN ?_ _) | (refine Below.drew ?_)))); have hv0 := hv.below (w' := ((w.alloc (.cells #[.int .i64 m, .slice (some ⟨bx, fx, none⟩) xs.length c] 28)).alloc (.cells #[.int .i64 0, .slice none 0 0] 31))) (by (repeat (first | exact Below.refl _ _ | (refine Below.setCell ?_ (by first | (simp; done) | (simp; omega) | omega) _) | (refine Below.alloc ?_ (by first | (simp; done) | (simp; omega) | omega) _) | (refine below_drewN ?_ _) | (refine Below.drew ?_)))) (Nat.le_refl _); generalize (w.alloc (.cells #[.int .i64 m, .slice (some ⟨bx, fx, none⟩) xs.length c] 28)).alloc (.cells #[.int .i64 0, .slice none 0 0] 31) = w0 at X0 R0 B0 hv0 ⊢)
  have hzl : w.heap.size + 1 < w0.heap.size := R0.1.lt
  go_cut [5] (fun sb u => ∃ (wz : World) (b : Nat) (oz : Option Addr) (cz : Nat), wz = u ∧ sb = .pointer (some ⟨b, 0, none⟩) ∧ w0.heap.size ≤ b ∧ RB2 u b (.int .i64 m) (.slice oz xs.length cz) ∧ (∃ lo hi, OwSR lo hi u (.slice oz xs.length cz) (zeroT xs.length) ∧ w0.heap.size ≤ lo ∧ (b < lo ∨ hi ≤ b) ∧ hi ≤ u.heap.size) ∧ True ∧ Below w0.heap.size w0 u)
  case first =>
    have hd0 : Below w0.heap.size w0 w0.drew := (Below.refl _ _).drew
    have hsd0 := hd0.size
    have hlb_X0 := X0.lt
    obtain ⟨q0_X0_0, q0_X0_1⟩ := X0.below (Below.refl w0.heap.size w0) (Nat.le_refl _)
    have hne0_X0 : w0.heap.size ≠ w.heap.size := by omega
    go_region_held3 (fun w' => w'.cell? ⟨w.heap.size, 0, none⟩ = some (.int .i64 m) ∧ w'.cell? ⟨w.heap.size, 1, none⟩ = some (.slice (some ⟨bx, fx, none⟩) xs.length c)) (go_keep)
      (first
        | (go_at_call 109; refine (degreeS_c m _ xs.length c _ hml).mono ?_; rintro e wd1 ⟨rfl, hbd1⟩; have hd1 : Below w0.heap.size w0 wd1 := (by (repeat (first | exact Below.refl _ _ | (refine Below.setCell ?_ (by first | (simp; done) | (simp; omega) | omega) _) | (refine Below.alloc ?_ (by first | (simp; done) | (simp; omega) | omega) _) | (refine below_drewN ?_ _) | (refine Below.drew ?_) | (refine Below.trans ?_ (Below.mono hbd1 (by first | (simp; done) | (simp; omega) | omega)))))); have hsd1 := hd1.size; have hsz1_ := hbd1.size; (try simp at hsz1_); obtain ⟨q1_X0_0, q1_X0_1⟩ := X0.below hd1 (Nat.le_refl _); have hne1_X0 : wd1.heap.size ≠ w.heap.size := (by omega); (try (have RZ := RZ.below hbd1 (Nat.le_refl _))); (try (have RZ := (show RB2 (w0.alloc (.cells #[.int .i64 0, .slice none 0 0] 31)).drew w0.heap.size (.int .i64 0) (.slice none 0 0) from RB2.mk1 w0 (.int .i64 0) (.slice none 0 0) _).below hbd1 (Nat.le_refl _))); (try (obtain ⟨⟨z1_0, z1_1⟩, zf1⟩ := id RZ)))
        | (go_at_call 98; refine (emptyPlane_c m ((xs.length : Int) - 1) xs.length _ rfl hn).mono ?_; rintro e wd2 ⟨vz2, rfl, hod2, hbd2⟩; obtain ⟨oz, cz, rfl⟩ := hod2.shapeN (n := xs.length) (zeroT_len _); have hd2 : Below w0.heap.size w0 wd2 := (by (repeat (first | exact Below.refl _ _ | (refine Below.setCell ?_ (by first | (simp; done) | (simp; omega) | omega) _) | (refine Below.alloc ?_ (by first | (simp; done) | (simp; omega) | omega) _) | (refine below_drewN ?_ _) | (refine Below.drew ?_) | (refine Below.trans ?_ (Below.mono hbd1 (by first | (simp; done) | (simp; omega) | omega))) | (refine Below.trans ?_ (Below.mono hbd2 (by first | (simp; done) | (simp; omega) | omega)))))); have hsd2 := hd2.size; have hsz2_ := hbd2.size; (try simp at hsz2_); obtain ⟨q2_X0_0, q2_X0_1⟩ := X0.below hd2 (Nat.le_refl _); have hne2_X0 : wd2.heap.size ≠ w.heap.size := (by omega); (try (have RZ := RZ.below hbd2 (Nat.le_refl _))); (try (have RZ := (show RB2 (wd1.alloc (.cells #[.int .i64 0, .slice none 0 0] 31)) wd1.heap.size (.int .i64 0) (.slice none 0 0) from RB2.mk1 wd1 (.int .i64 0) (.slice none 0 0) _).below hbd2 (Nat.le_refl _))); (try (obtain ⟨⟨z2_0, z2_1⟩, zf2⟩ := id RZ))))
    all_goals
      go_wp2_with fail
      go_meet
      refine ⟨_, _, oz, cz, rfl, rfl, ?_, ?_, ?_, ?_, ?_⟩
      · first | omega | (simp; done) | (simp; omega)
      · first | exact RB2.mk1 _ _ _ _ | exact RB2.put RZ _ _
      · first | exact ⟨_, _, hod2.ra _, (by first | (simp; done) | (simp; omega) | omega), .inr (Nat.le_refl _), (by first | (simp; done) | (simp; omega) | omega)⟩ | exact ⟨_, _, hod2.rp2 (by first | (simp; done) | (simp; omega) | omega) _ _, (by first | (simp; done) | (simp; omega) | omega), .inl (by first | (simp; done) | (simp; omega) | omega), (by first | (simp; done) | (simp; omega) | omega)⟩
      · trivial
      · (repeat (first | exact Below.refl _ _ | (refine Below.setCell ?_ (by first | (simp; done) | (simp; omega) | omega) _) | (refine Below.alloc ?_ (by first | (simp; done) | (simp; omega) | omega) _) | (refine below_drewN ?_ _) | (refine Below.drew ?_) | (refine Below.trans ?_ (Below.mono hbd1 (by first | (simp; done) | (simp; omega) | omega))) | (refine Below.trans ?_ (Below.mono hbd2 (by first | (simp; done) | (simp; omega) | omega)))))
  case rest =>
  obtain ⟨w1, b, oz, cz, rfl, rfl, hbW, O, how, hneb, hb⟩ := hcut
  (have X1 := X0.below hb (Nat.le_refl _); have R1 := R0.below hb (Nat.le_refl _); have hv1 := hv0.below hb (Nat.le_refl _); have B1 := B0.trans (hb.mono B0.size))
  obtain ⟨lo, hi, how, hlo, hbo, hhi⟩ := how
  obtain ⟨us, how⟩ := how.named
  obtain ⟨g, rfl, hgl, hgl'⟩ := how.row h1
  rw [axTo_0 xs.length xs 0] at how
  have B1s := B1.size
  have hlB : w.heap.size + 1 < lo := by omega
  obtain ⟨x0, x1⟩ := id X1
  go_wp2_with fail
  clear x0 x1
  go_loopw [16] (fun s wr => ∃ i : Nat, i ≤ xs.length ∧ s = .int .i64 i ∧ OwSU us lo hi wr (.slice (some ⟨g, 0, none⟩) xs.length cz) (axTo xs.length xs 0 i) ∧ Chg lo hi w1 wr) (fun i _ => xs.length - (intOf i).toNat)
  case atStart => exact ⟨0, Nat.zero_le _, rfl, how, Chg.refl _ _ _⟩
  case round =>
    obtain ⟨i, hi', rfl, hO, hC⟩ := hrel
    have Br := hC.below B1 (by omega) B1s
    obtain ⟨⟨z0, z1⟩, zf⟩ := O.chg hC hbo
    by_cases hlt : i < xs.length
    · have cx := (hv.below Br (Nat.le_refl _)).cell0 (some_at0 hlt)
      obtain ⟨o3, c3, hu3, cx3, how3, hbl3, hset3⟩ := hO.at (axTo_row (p := i) (show i < xs.length by omega))
      rw [mk_len] at hu3 cx3 how3 hbl3 hset3
      obtain ⟨gr, rfl, hgr1, hgr2⟩ := how3.row (by omega)
      have hgr3 := hbl3 gr rfl
      have hc0 := how3.cell (k := 0) (mk_get (show 0 < xs.length - i by omega))
      have hf0 := how3.fz 0
      have hN := Lib.hid how3
      have hS := Lib.hid hset3
      have HSET := Lib.hid (axTo_set0 (xs := xs) hlt)
      clear how3 hset3 hbl3 hu3
      have i0 : (0 : Int) ≤ (i : Int) := by omega
      have i1 : (i : Int) < (xs.length : Int) := by omega
      have i2 : (0 : Int) < (xs.length : Int) := by omega
      have i3 : 0 < xs.length := by omega
      have i4 : (0 : Int) < ((xs.length - i : Nat) : Int) := by omega
      have i5 : 0 < xs.length - i := by omega
      have i6 : (i : Int) < ((xs.length - 0 : Nat) : Int) := by omega
      have hg0 := gr_put (World.grownBy.refl wr (some gr)) 0 (.int .i64 (at0 xs i))
      have hOn := hS.out _ _ (by rw [List.length_set, mk_len]) hg0 (hN.out.put 0 (at0 xs i))
      rw [HSET.out] at hOn
      have hCn := hC.grown hg0 hgr3.1 hgr3.2.1
      have HON := Lib.hid hOn
      have HCN := Lib.hid hCn
      clear hOn hCn hg0
      go_wp2
      exact ⟨⟨i + 1, by omega, by go_num, HON.out, HCN.out⟩, by simp [intOf]; omega⟩
    · obtain rfl : i = xs.length := by omega
      rw [axTo_n] at hO
      obtain ⟨⟨r0, r1⟩, rf⟩ := R1.chg hC (.inl hlB)
      go_wp2
      refine bodyPost_ret (v := .agg #[.int .i64 m, .slice (some ⟨g, 0, none⟩) xs.length cz]) (by simp [results, Tryz.results129, go_sem, r0, r1]) rfl ⟨_, rfl, ?_, ?_⟩
      · exact ((hO.r.ow.low hlB _).low hlB _).mono (by omega)
      · (repeat (first | exact Below.refl _ _ | (refine Below.setCell ?_ (by first | (simp; done) | (simp; omega) | omega) _) | (refine Below.alloc ?_ (by first | (simp; done) | (simp; omega) | omega) _) | (refine below_drewN ?_ _) | (refine Below.drew ?_) | (refine Below.trans ?_ (Below.mono Br (by first | (simp; done) | (simp; omega) | omega)))))
set_option maxHeartbeats 2000000 in
set_option maxRecDepth 100000 in
theorem onAxis1_c (m : Int) (n : Nat) (v : Value) (xs : List Int) (w : World) (hv : RdI w v xs) (hl : xs.length = n) (h1 : 1 ≤ n) (hn : n ≤ 1000) :
    Calls Tryz.prog 129 #[.agg #[.int .i64 m, v], .int .i64 1] w fun e w' => PVEnd w w' m (axT n xs 1) e := by
  subst hl
  obtain ⟨o, c, rfl, hmx, -⟩ := id hv
  have hml := hmx.1
  unfold maxLen at hmx
  obtain ⟨bx, fx, rfl, -⟩ := hv.cells (by omega)
  go_enter Tryz.func129, Tryz.ntmps129
  go_wp2_with fail
  (have X0 := ((RB2.mk1 w  (.int .i64 m) (.slice (some ⟨bx, fx, none⟩) xs.length c) 28).1).below (w' := ((w.alloc (.cells #[.int .i64 m, .slice (some ⟨bx, fx, none⟩) xs.length c] 28)).alloc (.cells #[.int .i64 0, .slice none 0 0] 31))) (by (repeat (first | exact Below.refl _ _ | (refine Below.setCell ?_ (by first | (simp; done) | (simp; omega) | omega) _) | (refine Below.alloc ?_ (by first | (simp; done) | (simp; omega) | omega) _) | (refine below_drewN ?_ _) | (refine Below.drew ?_)))) (Nat.le_refl _); have R0 := ((RB2.mk2 w (.cells #[.int .i64 m, .slice (some ⟨bx, fx, none⟩) xs.length c] 28) (.int .i64 0) (.slice none 0 0) 31)).below (w' := ((w.alloc (.cells #[.int .i64 m, .slice (some ⟨bx, fx, none⟩) xs.length c] 28)).alloc (.cells #[.int .i64 0, .slice none 0 0] 31))) (by (repeat (first | exact Below.refl _ _ | (refine Below.setCell ?_ (by first | (simp; done) | (simp; omega) | omega) _) | (refine Below.alloc ?_ (by first | (simp; done) | (simp; omega) | omega) _) | (refine below_drewN ?_ _) | (refine Below.drew ?_)))) (Nat.le_refl _); have B0 : Below w.heap.size w ((w.alloc (.cells #[.int .i64 m, .slice (some ⟨bx, fx, none⟩) xs.length c] 28)).alloc (.cells #[.int .i64 0, .slice none 0 0] 31)) := (by (repeat (first | exact Below.refl _ _ | (refine Below.setCell ?_ (by first | (simp; done) | (simp; omega) | omega) _) | (refine Below.alloc ?_ (by first | (simp; done) | (simp; omega) | omega) _) | (refine below_drewN ?_ _) | (refine Below.drew ?_)))); have hv0 := hv.below (w' := ((w.alloc (.cells #[.int .i64 m, .slice (some ⟨bx, fx, none⟩) xs.length c] 28)).alloc (.cells #[.int .i64 0, .slice none 0 0] 31))) (by (repeat (first | exact Below.refl _ _ | (refine Below.setCell ?_ (by first | (simp; done) | (simp; omega) | omega) _) | (refine Below.alloc ?_ (by first | (simp; done) | (simp; omega) | omega) _) | (refine below_drewN ?_ _) | (refine Below.drew ?_)))) (Nat.le_refl _); generalize (w.alloc (.cells #[.int .i64 m, .slice (some ⟨bx, fx, none⟩) xs.length c] 28)).alloc (.cells #[.int .i64 0, .slice none 0 0] 31) = w0 at X0 R0 B0 hv0 ⊢)
  have hzl : w.heap.size + 1 < w0.heap.size := R0.1.lt
  go_cut [5] (fun sb u => ∃ (wz : World) (b : Nat) (oz : Option Addr) (cz : Nat), wz = u ∧ sb = .pointer (some ⟨b, 0, none⟩) ∧ w0.heap.size ≤ b ∧ RB2 u b (.int .i64 m) (.slice oz xs.length cz) ∧ (∃ lo hi, OwSR lo hi u (.slice oz xs.length cz) (zeroT xs.length) ∧ w0.heap.size ≤ lo ∧ (b < lo ∨ hi ≤ b) ∧ hi ≤ u.heap.size) ∧ True ∧ Below w0.heap.size w0 u)
  case first =>
    have hd0 : Below w0.heap.size w0 w0.drew := (Below.refl _ _).drew
    have hsd0 := hd0.size
    have hlb_X0 := X0.lt
    obtain ⟨q0_X0_0, q0_X0_1⟩ := X0.below (Below.refl w0.heap.size w0) (Nat.le_refl _)
    have hne0_X0 : w0.heap.size ≠ w.heap.size := by omega
    go_region_held3 (fun w' => w'.cell? ⟨w.heap.size, 0, none⟩ = some (.int .i64 m) ∧ w'.cell? ⟨w.heap.size, 1, none⟩ = some (.slice (some ⟨bx, fx, none⟩) xs.length c)) (go_keep)
      (first
        | (go_at_call 109; refine (degreeS_c m _ xs.length c _ hml).mono ?_; rintro e wd1 ⟨rfl, hbd1⟩; have hd1 : Below w0.heap.size w0 wd1 := (by (repeat (first | exact Below.refl _ _ | (refine Below.setCell ?_ (by first | (simp; done) | (simp; omega) | omega) _) | (refine Below.alloc ?_ (by first | (simp; done) | (simp; omega) | omega) _) | (refine below_drewN ?_ _) | (refine Below.drew ?_) | (refine Below.trans ?_ (Below.mono hbd1 (by first | (simp; done) | (simp; omega) | omega)))))); have hsd1 := hd1.size; have hsz1_ := hbd1.size; (try simp at hsz1_); obtain ⟨q1_X0_0, q1_X0_1⟩ := X0.below hd1 (Nat.le_refl _); have hne1_X0 : wd1.heap.size ≠ w.heap.size := (by omega); (try (have RZ := RZ.below hbd1 (Nat.le_refl _))); (try (have RZ := (show RB2 (w0.alloc (.cells #[.int .i64 0, .slice none 0 0] 31)).drew w0.heap.size (.int .i64 0) (.slice none 0 0) from RB2.mk1 w0 (.int .i64 0) (.slice none 0 0) _).below hbd1 (Nat.le_refl _))); (try (obtain ⟨⟨z1_0, z1_1⟩, zf1⟩ := id RZ)))
        | (go_at_call 98; refine (emptyPlane_c m ((xs.length : Int) - 1) xs.length _ rfl hn).mono ?_; rintro e wd2 ⟨vz2, rfl, hod2, hbd2⟩; obtain ⟨oz, cz, rfl⟩ := hod2.shapeN (n := xs.length) (zeroT_len _); have hd2 : Below w0.heap.size w0 wd2 := (by (repeat (first | exact Below.refl _ _ | (refine Below.setCell ?_ (by first | (simp; done) | (simp; omega) | omega) _) | (refine Below.alloc ?_ (by first | (simp; done) | (simp; omega) | omega) _) | (refine below_drewN ?_ _) | (refine Below.drew ?_) | (refine Below.trans ?_ (Below.mono hbd1 (by first | (simp; done) | (simp; omega) | omega))) | (refine Below.trans ?_ (Below.mono hbd2 (by first | (simp; done) | (simp; omega) | omega)))))); have hsd2 := hd2.size; have hsz2_ := hbd2.size; (try simp at hsz2_); obtain ⟨q2_X0_0, q2_X0_1⟩ := X0.below hd2 (Nat.le_refl _); have hne2_X0 : wd2.heap.size ≠ w.heap.size := (by omega); (try (have RZ := RZ.below hbd2 (Nat.le_refl _))); (try (have RZ := (show RB2 (wd1.alloc (.cells #[.int .i64 0, .slice none 0 0] 31)) wd1.heap.size (.int .i64 0) (.slice none 0 0) from RB2.mk1 wd1 (.int .i64 0) (.slice none 0 0) _).below hbd2 (Nat.le_refl _))); (try (obtain ⟨⟨z2_0, z2_1⟩, zf2⟩ := id RZ))))
    all_goals
      go_wp2_with fail
      go_meet
      refine ⟨_, _, oz, cz, rfl, rfl, ?_, ?_, ?_, ?_, ?_⟩
      · first | omega | (simp; done) | (simp; omega)
      · first | exact RB2.mk1 _ _ _ _ | exact RB2.put RZ _ _
      · first | exact ⟨_, _, hod2.ra _, (by first | (simp; done) | (simp; omega) | omega), .inr (Nat.le_refl _), (by first | (simp; done) | (simp; omega) | omega)⟩ | exact ⟨_, _, hod2.rp2 (by first | (simp; done) | (simp; omega) | omega) _ _, (by first | (simp; done) | (simp; omega) | omega), .inl (by first | (simp; done) | (simp; omega) | omega), (by first | (simp; done) | (simp; omega) | omega)⟩
      · trivial
      · (repeat (first | exact Below.refl _ _ | (refine Below.setCell ?_ (by first | (simp; done) | (simp; omega) | omega) _) | (refine Below.alloc ?_ (by first | (simp; done) | (simp; omega) | omega) _) | (refine below_drewN ?_ _) | (refine Below.drew ?_) | (refine Below.trans ?_ (Below.mono hbd1 (by first | (simp; done) | (simp; omega) | omega))) | (refine Below.trans ?_ (Below.mono hbd2 (by first | (simp; done) | (simp; omega) | omega)))))
  case rest =>
  obtain ⟨w1, b, oz, cz, rfl, rfl, hbW, O, how, hneb, hb⟩ := hcut
  (have X1 := X0.below hb (Nat.le_refl _); have R1 := R0.below hb (Nat.le_refl _); have hv1 := hv0.below hb (Nat.le_refl _); have B1 := B0.trans (hb.mono B0.size))
  obtain ⟨lo, hi, how, hlo, hbo, hhi⟩ := how
  obtain ⟨us, how⟩ := how.named
  obtain ⟨g, rfl, hgl, hgl'⟩ := how.row h1
  rw [axTo_0 xs.length xs 1] at how
  have B1s := B1.size
  have hlB : w.heap.size + 1 < lo := by omega
  obtain ⟨x0, x1⟩ := id X1
  go_wp2_with fail
  clear x0 x1
  go_loopw [16] (fun s wr => ∃ i : Nat, i ≤ xs.length ∧ s = .int .i64 i ∧ OwSU us lo hi wr (.slice (some ⟨g, 0, none⟩) xs.length cz) (axTo xs.length xs 1 i) ∧ Chg lo hi w1 wr) (fun i _ => xs.length - (intOf i).toNat)
  case atStart => exact ⟨0, Nat.zero_le _, rfl, how, Chg.refl _ _ _⟩
  case round =>
    obtain ⟨i, hi', rfl, hO, hC⟩ := hrel
    have Br := hC.below B1 (by omega) B1s
    obtain ⟨⟨z0, z1⟩, zf⟩ := O.chg hC hbo
    by_cases hlt : i < xs.length
    · have cx := (hv.below Br (Nat.le_refl _)).cell0 (some_at0 hlt)
      obtain ⟨o3, c3, hu3, cx3, how3, hbl3, hset3⟩ := hO.at (axTo_row (p := 0) (show 0 < xs.length by omega))
      rw [mk_len] at hu3 cx3 how3 hbl3 hset3
      obtain ⟨gr, rfl, hgr1, hgr2⟩ := how3.row (by omega)
      have hgr3 := hbl3 gr rfl
      have hc0 := how3.cell (k := i) (mk_get (show i < xs.length - 0 by omega))
      have hf0 := how3.fz i
      have hN := Lib.hid how3
      have hS := Lib.hid hset3
      have HSET := Lib.hid (axTo_set1 (xs := xs) hlt)
      clear how3 hset3 hbl3 hu3
      have i0 : (0 : Int) ≤ (i : Int) := by omega
      have i1 : (i : Int) < (xs.length : Int) := by omega
      have i2 : (0 : Int) < (xs.length : Int) := by omega
      have i3 : 0 < xs.length := by omega
      have i4 : (0 : Int) < ((xs.length - 0 : Nat) : Int) := by omega
      have i5 : 0 < xs.length - 0 := by omega
      have i6 : (i : Int) < ((xs.length - 0 : Nat) : Int) := by omega
      have hg0 := gr_put (World.grownBy.refl wr (some gr)) i (.int .i64 (at0 xs i))
      have hOn := hS.out _ _ (by rw [List.length_set, mk_len]) hg0 (hN.out.put i (at0 xs i))
      rw [HSET.out] at hOn
      have hCn := hC.grown hg0 hgr3.1 hgr3.2.1
      have HON := Lib.hid hOn
      have HCN := Lib.hid hCn
      clear hOn hCn hg0
      go_wp2
      exact ⟨⟨i + 1, by omega, by go_num, HON.out, HCN.out⟩, by simp [intOf]; omega⟩
    · obtain rfl : i = xs.length := by omega
      rw [axTo_n] at hO
      obtain ⟨⟨r0, r1⟩, rf⟩ := R1.chg hC (.inl hlB)
      go_wp2
      refine bodyPost_ret (v := .agg #[.int .i64 m, .slice (some ⟨g, 0, none⟩) xs.length cz]) (by simp [results, Tryz.results129, go_sem, r0, r1]) rfl ⟨_, rfl, ?_, ?_⟩
      · exact ((hO.r.ow.low hlB _).low hlB _).mono (by omega)
      · (repeat (first | exact Below.refl _ _ | (refine Below.setCell ?_ (by first | (simp; done) | (simp; omega) | omega) _) | (refine Below.alloc ?_ (by first | (simp; done) | (simp; omega) | omega) _) | (refine below_drewN ?_ _) | (refine Below.drew ?_) | (refine Below.trans ?_ (Below.mono Br (by first | (simp; done) | (simp; omega) | omega)))))

end Go.Proofs.YtoednonijmkbjaaGreat
