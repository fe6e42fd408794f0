/- Lemmas. -/
import Derived.Test.YtoednonijmkbjaaGreatLM11
import Derived.Test.YtoednonijmkbjaaGreatLM12
import Derived.Test.YtoednonijmkbjaaGreatLM2
import Derived.Test.YtoednonijmkbjaaGreatLSerC
import Derived.Deep.RegionHeld3
import Derived.Test.YtoednonijmkbjaaGreatLM15
import Derived.Test.YtoednonijmkbjaaGreatLG2
import Derived.Test.YtoednonijmkbjaaGreatLG15
set_option linter.unusedSimpArgs false
set_option linter.unusedVariables false
namespace Go.Proofs.YtoednonijmkbjaaGreat
open Go.RowKit

def axF (xs : List Int) (k : Int) (i p q : Nat) : Int := if k = 0 then (if q = 0 ∧ p < i then at0 xs p else 0) else (if p = 0 ∧ q < i then at0 xs q else 0)
def axTo (n : Nat) (xs : List Int) (k : Int) (i : Nat) : List (List Int) := tri n (axF xs k i)
theorem axTo_0 (n : Nat) (xs : List Int) (k : Int) : zeroT n = axTo n xs k 0 := tri_ext fun i j _ => by
  unfold axF; split <;> rw [if_neg (by omega)]
theorem axTo_n {n : Nat} {xs : List Int} {k : Int} : axTo n xs k n = axT n xs k := tri_ext fun i j h => by
  unfold axF
  by_cases hk : k = 0
  · rw [if_pos hk, if_pos hk]
    by_cases hj : j = 0
    · rw [if_pos hj, if_pos ⟨hj, by omega⟩]
    · rw [if_neg hj, if_neg (by omega)]
  · rw [if_neg hk, if_neg hk]
    by_cases hi : i = 0
    · rw [if_pos hi, if_pos ⟨hi, by omega⟩]
    · rw [if_neg hi, if_neg (by omega)]
theorem axTo_row {n : Nat} {xs : List Int} {k : Int} {i p : Nat} (h : p < n) : (axTo n xs k i)[p]? = some (mk (n - p) (axF xs k i p)) := tri_get h
theorem axTo_set0 {n : Nat} {xs : List Int} {i : Nat} (h : i < n) : (axTo n xs 0 i).set i ((mk (n - i) (axF xs 0 i i)).set 0 (at0 xs i)) = axTo n xs 0 (i + 1) := by
  unfold axTo
  rw [tri_set (by omega)]
  refine tri_ext fun a b _ => ?_
  unfold axF
  rw [if_pos rfl, if_pos rfl]
  by_cases hab : a = i ∧ b = 0
  · rw [if_pos hab, if_pos (by omega), hab.1]
  · rw [if_neg hab]
    by_cases h2 : b = 0 ∧ a < i
    · rw [if_pos h2, if_pos (by omega)]
    · rw [if_neg h2, if_neg (by omega)]
theorem axTo_set1 {n : Nat} {xs : List Int} {i : Nat} (h : i < n) : (axTo n xs 1 i).set 0 ((mk (n - 0) (axF xs 1 i 0)).set i (at0 xs i)) = axTo n xs 1 (i + 1) := by
  unfold axTo
  rw [tri_set (by omega)]
  refine tri_ext fun a b _ => ?_
  unfold axF
  simp only [show ((1 : Int) = 0) = False by simp, if_false]
  by_cases hab : a = 0 ∧ b = i
  · rw [if_pos hab, if_pos (by omega), hab.2]
  · rw [if_neg hab]
    by_cases h2 : a = 0 ∧ b < i
    · rw [if_pos h2, if_pos (by omega)]
    · rw [if_neg h2, if_neg (by omega)]

set_option maxHeartbeats 2000000 in
set_option maxRecDepth 100000 in
theorem onAxis0_c (m : Int) (n : Nat) (v : Value) (xs : List Int) (w : World) (hv : RdI w v xs) (hl : xs.length = n) (h1 : 1 ≤ n) (hn : n ≤ 1000) :
    Calls Tryz.prog 129 #[.agg #[.int .i64 m, v], .int .i64 0] w fun e w' => PVEnd w w' m (axT n xs 0) e := by
  subst hl
  obtain ⟨o, c, rfl, hmx, -⟩ := id hv
  have hml := hmx.1
  unfold maxLen at hmx
  obtain ⟨bx, fx, rfl, -⟩ := hv.cells (by omega)
  go_enter Tryz.func129, Tryz.ntmps129
  go_wp2_with fail
  (have X0 := ((RB2.mk1 w  (.int .i64 m) (.slice (some ⟨bx, fx, none⟩) xs.length c) 28).1).below (w' := ((w.alloc (.cells #[.int .i64 m, .slice (some ⟨bx, fx, none⟩) xs.length c] 28)).alloc (.cells #[.int .i64 0, .slice none 0 0] 31))) (by (repeat (first | exact bR _ _ | (refine bS ?_ _) | (refine bA ?_ _) | (refine bN ?_ _) | (refine bD ?_)))) (Nat.le_refl _); have R0 := ((RB2.mk2 w (.cells #[.int .i64 m, .slice (some ⟨bx, fx, none⟩) xs.length c] 28) (.int .i64 0) (.slice none 0 0) 31)).below (w' := ((w.alloc (.cells #[.int .i64 m, .slice (some ⟨bx, fx, none⟩) xs.length c] 28)).alloc (.cells #[.int .i64 0, .slice none 0 0] 31))) (by (repeat (first | exact bR _ _ | (refine bS ?_ _) | (refine bA ?_ _) | (refine bN ?_ _) | (refine bD ?_)))) (Nat.le_refl _); have B0 : Below w.heap.size w ((w.alloc (.cells #[.int .i64 m, .slice (some ⟨bx, fx, none⟩) xs.length c] 28)).alloc (.cells #[.int .i64 0, .slice none 0 0] 31)) := (by (repeat (first | exact bR _ _ | (refine bS ?_ _) | (refine bA ?_ _) | (refine bN ?_ _) | (refine bD ?_)))); have hv0 := hv.below (w' := ((w.alloc (.cells #[.int .i64 m, .slice (some ⟨bx, fx, none⟩) xs.length c] 28)).alloc (.cells #[.int .i64 0, .slice none 0 0] 31))) (by (repeat (first | exact bR _ _ | (refine bS ?_ _) | (refine bA ?_ _) | (refine bN ?_ _) | (refine bD ?_)))) (Nat.le_refl _); generalize (w.alloc (.cells #[.int .i64 m, .slice (some ⟨bx, fx, none⟩) xs.length c] 28)).alloc (.cells #[.int .i64 0, .slice none 0 0] 31) = w0 at X0 R0 B0 hv0 ⊢)
  have hzl : w.heap.size + 1 < w0.heap.size := R0.1.lt
  go_cut [5] (fun sb u => ∃ (wz : World) (b : Nat) (oz : Option Addr) (cz : Nat), wz = u ∧ sb = .pointer (some ⟨b, 0, none⟩) ∧ w0.heap.size ≤ b ∧ RB2 u b (.int .i64 m) (.slice oz xs.length cz) ∧ (∃ lo hi, OwSR lo hi u (.slice oz xs.length cz) (zeroT xs.length) ∧ w0.heap.size ≤ lo ∧ (b < lo ∨ hi ≤ b) ∧ hi ≤ u.heap.size) ∧ True ∧ Below w0.heap.size w0 u)
  case first =>
    have hd0 : Below w0.heap.size w0 w0.drew := (Below.refl _ _).drew
    have hsd0 := hd0.size
    have hlb_X0 := X0.lt
    obtain ⟨q0_X0_0, q0_X0_1⟩ := X0.below (Below.refl w0.heap.size w0) (Nat.le_refl _)
    have hne0_X0 : w0.heap.size ≠ w.heap.size := by omega
    go_region_held3 (fun w' => w'.cell? ⟨w.heap.size, 0, none⟩ = some (.int .i64 m) ∧ w'.cell? ⟨w.heap.size, 1, none⟩ = some (.slice (some ⟨bx, fx, none⟩) xs.length c)) (go_keep)
      (first
        | (go_at_call 109; refine (degreeS_c m _ xs.length c _ hml).mono ?_; rintro e wd1 ⟨rfl, hbd1⟩; have hd1 : Below w0.heap.size w0 wd1 := (by (repeat (first | exact bR _ _ | (refine bS ?_ _) | (refine bA ?_ _) | (refine bN ?_ _) | (refine bD ?_) | (refine bT ?_ hbd1)))); have hsd1 := hd1.size; have hsz1_ := hbd1.size; (try simp at hsz1_); obtain ⟨q1_X0_0, q1_X0_1⟩ := X0.below hd1 (Nat.le_refl _); have hne1_X0 : wd1.heap.size ≠ w.heap.size := (by omega); (try (have RZ := RZ.below hbd1 (Nat.le_refl _))); (try (have RZ := (show RB2 (w0.alloc (.cells #[.int .i64 0, .slice none 0 0] 31)).drew w0.heap.size (.int .i64 0) (.slice none 0 0) from RB2.mk1 w0 (.int .i64 0) (.slice none 0 0) _).below hbd1 (Nat.le_refl _))); (try (obtain ⟨⟨z1_0, z1_1⟩, zf1⟩ := id RZ)))
        | (go_at_call 98; refine (emptyPlane_c m ((xs.length : Int) - 1) xs.length _ rfl hn).mono ?_; rintro e wd2 ⟨vz2, rfl, hod2, hbd2⟩; obtain ⟨oz, cz, rfl⟩ := hod2.shapeN (n := xs.length) (zeroT_len _); have hd2 : Below w0.heap.size w0 wd2 := (by (repeat (first | exact bR _ _ | (refine bS ?_ _) | (refine bA ?_ _) | (refine bN ?_ _) | (refine bD ?_) | (refine bT ?_ hbd1) | (refine bT ?_ hbd2)))); have hsd2 := hd2.size; have hsz2_ := hbd2.size; (try simp at hsz2_); obtain ⟨q2_X0_0, q2_X0_1⟩ := X0.below hd2 (Nat.le_refl _); have hne2_X0 : wd2.heap.size ≠ w.heap.size := (by omega); (try (have RZ := RZ.below hbd2 (Nat.le_refl _))); (try (have RZ := (show RB2 (wd1.alloc (.cells #[.int .i64 0, .slice none 0 0] 31)) wd1.heap.size (.int .i64 0) (.slice none 0 0) from RB2.mk1 wd1 (.int .i64 0) (.slice none 0 0) _).below hbd2 (Nat.le_refl _))); (try (obtain ⟨⟨z2_0, z2_1⟩, zf2⟩ := id RZ))))
    all_goals
      go_wp2_with fail
      go_meet
      refine ⟨_, _, oz, cz, rfl, rfl, ?_, ?_, ?_, ?_, ?_⟩
      · first | omega | (simp; done) | (simp; omega)
      · first | exact RB2.mk1 _ _ _ _ | exact RB2.put RZ _ _
      · first | exact ⟨_, _, hod2.ra _, (by first | (simp; done) | (simp; omega) | omega), .inr (Nat.le_refl _), (by first | (simp; done) | (simp; omega) | omega)⟩ | exact ⟨_, _, hod2.rp2 (by first | (simp; done) | (simp; omega) | omega) _ _, (by first | (simp; done) | (simp; omega) | omega), .inl (by first | (simp; done) | (simp; omega) | omega), (by first | (simp; done) | (simp; omega) | omega)⟩
      · trivial
      · (repeat (first | exact bR _ _ | (refine bS ?_ _) | (refine bA ?_ _) | (refine bN ?_ _) | (refine bD ?_) | (refine bT ?_ hbd1) | (refine bT ?_ hbd2)))
  case rest =>
  obtain ⟨w1, b, oz, cz, rfl, rfl, hbW, O, how, hneb, hb⟩ := hcut
  (have X1 := X0.below hb (Nat.le_refl _); have R1 := R0.below hb (Nat.le_refl _); have hv1 := hv0.below hb (Nat.le_refl _); have B1 := B0.trans (hb.mono B0.size))
  obtain ⟨lo, hi, how, hlo, hbo, hhi⟩ := how
  obtain ⟨us, how⟩ := how.named
  obtain ⟨g, rfl, hgl, hgl'⟩ := how.row h1
  rw [axTo_0 xs.length xs 0] at how
  have B1s := B1.size
  have hlB : w.heap.size + 1 < lo := by omega
  obtain ⟨x0, x1⟩ := id X1
  go_wp2_with fail
  clear x0 x1
  go_loopw [16] (fun s wr => ∃ i : Nat, i ≤ xs.length ∧ s = .int .i64 i ∧ OwSU us lo hi wr (.slice (some ⟨g, 0, none⟩) xs.length cz) (axTo xs.length xs 0 i) ∧ Chg lo hi w1 wr) (fun i _ => xs.length - (intOf i).toNat)
  case atStart => exact ⟨0, Nat.zero_le _, rfl, how, Chg.refl _ _ _⟩
  case round =>
    obtain ⟨i, hi', rfl, hO, hC⟩ := hrel
    have Br := hC.below B1 (by omega) B1s
    obtain ⟨⟨z0, z1⟩, zf⟩ := O.chg hC hbo
    by_cases hlt : i < xs.length
    · have cx := (hv.below Br (Nat.le_refl _)).cell0 (some_at0 hlt)
      obtain ⟨o3, c3, hu3, cx3, how3, hbl3, hset3⟩ := hO.at (axTo_row (p := i) (show i < xs.length by omega))
      rw [mk_len] at hu3 cx3 how3 hbl3 hset3
      obtain ⟨gr, rfl, hgr1, hgr2⟩ := how3.row (by omega)
      have hgr3 := hbl3 gr rfl
      have hc0 := how3.cell (k := 0) (mk_get (show 0 < xs.length - i by omega))
      have hf0 := how3.fz 0
      have hN := Lib.hid how3
      have hS := Lib.hid hset3
      have HSET := Lib.hid (axTo_set0 (xs := xs) hlt)
      clear how3 hset3 hbl3 hu3
      have i0 : (0 : Int) ≤ (i : Int) := by omega
      have i1 : (i : Int) < (xs.length : Int) := by omega
      have i2 : (0 : Int) < (xs.length : Int) := by omega
      have i3 : 0 < xs.length := by omega
      have i4 : (0 : Int) < ((xs.length - i : Nat) : Int) := by omega
      have i5 : 0 < xs.length - i := by omega
      have i6 : (i : Int) < ((xs.length - 0 : Nat) : Int) := by omega
      have hg0 := gr_put (World.grownBy.refl wr (some gr)) 0 (.int .i64 (at0 xs i))
      have hOn := hS.out _ _ (by rw [List.length_set, mk_len]) hg0 (hN.out.put 0 (at0 xs i))
      rw [HSET.out] at hOn
      have hCn := hC.grown hg0 hgr3.1 hgr3.2.1
      have HON := Lib.hid hOn
      have HCN := Lib.hid hCn
      clear hOn hCn hg0
      go_wp2
      exact ⟨⟨i + 1, by omega, by go_num, HON.out, HCN.out⟩, by simp [intOf]; omega⟩
    · obtain rfl : i = xs.length := by omega
      rw [axTo_n] at hO
      obtain ⟨⟨r0, r1⟩, rf⟩ := R1.chg hC (.inl hlB)
      go_wp2
      refine bodyPost_ret (v := .agg #[.int .i64 m, .slice (some ⟨g, 0, none⟩) xs.length cz]) (by simp [results, Tryz.results129, go_sem, r0, r1]) rfl ⟨_, rfl, ?_, ?_⟩
      · exact ((hO.r.ow.low hlB _).low hlB _).mono (by omega)
      · (repeat (first | exact bR _ _ | (refine bS ?_ _) | (refine bA ?_ _) | (refine bN ?_ _) | (refine bD ?_) | (refine bT ?_ Br)))
set_option maxHeartbeats 2000000 in
set_option maxRecDepth 100000 in
theorem onAxis1_c (m : Int) (n : Nat) (v : Value) (xs : List Int) (w : World) (hv : RdI w v xs) (hl : xs.length = n) (h1 : 1 ≤ n) (hn : n ≤ 1000) :
    Calls Tryz.prog 129 #[.agg #[.int .i64 m, v], .int .i64 1] w fun e w' => PVEnd w w' m (axT n xs 1) e := by
  subst hl
  obtain ⟨o, c, rfl, hmx, -⟩ := id hv
  have hml := hmx.1
  unfold maxLen at hmx
  obtain ⟨bx, fx, rfl, -⟩ := hv.cells (by omega)
  go_enter Tryz.func129, Tryz.ntmps129
  go_wp2_with fail
  (have X0 := ((RB2.mk1 w  (.int .i64 m) (.slice (some ⟨bx, fx, none⟩) xs.length c) 28).1).below (w' := ((w.alloc (.cells #[.int .i64 m, .slice (some ⟨bx, fx, none⟩) xs.length c] 28)).alloc (.cells #[.int .i64 0, .slice none 0 0] 31))) (by (repeat (first | exact bR _ _ | (refine bS ?_ _) | (refine bA ?_ _) | (refine bN ?_ _) | (refine bD ?_)))) (Nat.le_refl _); have R0 := ((RB2.mk2 w (.cells #[.int .i64 m, .slice (some ⟨bx, fx, none⟩) xs.length c] 28) (.int .i64 0) (.slice none 0 0) 31)).below (w' := ((w.alloc (.cells #[.int .i64 m, .slice (some ⟨bx, fx, none⟩) xs.length c] 28)).alloc (.cells #[.int .i64 0, .slice none 0 0] 31))) (by (repeat (first | exact bR _ _ | (refine bS ?_ _) | (refine bA ?_ _) | (refine bN ?_ _) | (refine bD ?_)))) (Nat.le_refl _); have B0 : Below w.heap.size w ((w.alloc (.cells #[.int .i64 m, .slice (some ⟨bx, fx, none⟩) xs.length c] 28)).alloc (.cells #[.int .i64 0, .slice none 0 0] 31)) := (by (repeat (first | exact bR _ _ | (refine bS ?_ _) | (refine bA ?_ _) | (refine bN ?_ _) | (refine bD ?_)))); have hv0 := hv.below (w' := ((w.alloc (.cells #[.int .i64 m, .slice (some ⟨bx, fx, none⟩) xs.length c] 28)).alloc (.cells #[.int .i64 0, .slice none 0 0] 31))) (by (repeat (first | exact bR _ _ | (refine bS ?_ _) | (refine bA ?_ _) | (refine bN ?_ _) | (refine bD ?_)))) (Nat.le_refl _); generalize (w.alloc (.cells #[.int .i64 m, .slice (some ⟨bx, fx, none⟩) xs.length c] 28)).alloc (.cells #[.int .i64 0, .slice none 0 0] 31) = w0 at X0 R0 B0 hv0 ⊢)
  have hzl : w.heap.size + 1 < w0.heap.size := R0.1.lt
  go_cut [5] (fun sb u => ∃ (wz : World) (b : Nat) (oz : Option Addr) (cz : Nat), wz = u ∧ sb = .pointer (some ⟨b, 0, none⟩) ∧ w0.heap.size ≤ b ∧ RB2 u b (.int .i64 m) (.slice oz xs.length cz) ∧ (∃ lo hi, OwSR lo hi u (.slice oz xs.length cz) (zeroT xs.length) ∧ w0.heap.size ≤ lo ∧ (b < lo ∨ hi ≤ b) ∧ hi ≤ u.heap.size) ∧ True ∧ Below w0.heap.size w0 u)
  case first =>
    have hd0 : Below w0.heap.size w0 w0.drew := (Below.refl _ _).drew
    have hsd0 := hd0.size
    have hlb_X0 := X0.lt
    obtain ⟨q0_X0_0, q0_X0_1⟩ := X0.below (Below.refl w0.heap.size w0) (Nat.le_refl _)
    have hne0_X0 : w0.heap.size ≠ w.heap.size := by omega
    go_region_held3 (fun w' => w'.cell? ⟨w.heap.size, 0, none⟩ = some (.int .i64 m) ∧ w'.cell? ⟨w.heap.size, 1, none⟩ = some (.slice (some ⟨bx, fx, none⟩) xs.length c)) (go_keep)
      (first
        | (go_at_call 109; refine (degreeS_c m _ xs.length c _ hml).mono ?_; rintro e wd1 ⟨rfl, hbd1⟩; have hd1 : Below w0.heap.size w0 wd1 := (by (repeat (first | exact bR _ _ | (refine bS ?_ _) | (refine bA ?_ _) | (refine bN ?_ _) | (refine bD ?_) | (refine bT ?_ hbd1)))); have hsd1 := hd1.size; have hsz1_ := hbd1.size; (try simp at hsz1_); obtain ⟨q1_X0_0, q1_X0_1⟩ := X0.below hd1 (Nat.le_refl _); have hne1_X0 : wd1.heap.size ≠ w.heap.size := (by omega); (try (have RZ := RZ.below hbd1 (Nat.le_refl _))); (try (have RZ := (show RB2 (w0.alloc (.cells #[.int .i64 0, .slice none 0 0] 31)).drew w0.heap.size (.int .i64 0) (.slice none 0 0) from RB2.mk1 w0 (.int .i64 0) (.slice none 0 0) _).below hbd1 (Nat.le_refl _))); (try (obtain ⟨⟨z1_0, z1_1⟩, zf1⟩ := id RZ)))
        | (go_at_call 98; refine (emptyPlane_c m ((xs.length : Int) - 1) xs.length _ rfl hn).mono ?_; rintro e wd2 ⟨vz2, rfl, hod2, hbd2⟩; obtain ⟨oz, cz, rfl⟩ := hod2.shapeN (n := xs.length) (zeroT_len _); have hd2 : Below w0.heap.size w0 wd2 := (by (repeat (first | exact bR _ _ | (refine bS ?_ _) | (refine bA ?_ _) | (refine bN ?_ _) | (refine bD ?_) | (refine bT ?_ hbd1) | (refine bT ?_ hbd2)))); have hsd2 := hd2.size; have hsz2_ := hbd2.size; (try simp at hsz2_); obtain ⟨q2_X0_0, q2_X0_1⟩ := X0.below hd2 (Nat.le_refl _); have hne2_X0 : wd2.heap.size ≠ w.heap.size := (by omega); (try (have RZ := RZ.below hbd2 (Nat.le_refl _))); (try (have RZ := (show RB2 (wd1.alloc (.cells #[.int .i64 0, .slice none 0 0] 31)) wd1.heap.size (.int .i64 0) (.slice none 0 0) from RB2.mk1 wd1 (.int .i64 0) (.slice none 0 0) _).below hbd2 (Nat.le_refl _))); (try (obtain ⟨⟨z2_0, z2_1⟩, zf2⟩ := id RZ))))
    all_goals
      go_wp2_with fail
      go_meet
      refine ⟨_, _, oz, cz, rfl, rfl, ?_, ?_, ?_, ?_, ?_⟩
      · first | omega | (simp; done) | (simp; omega)
      · first | exact RB2.mk1 _ _ _ _ | exact RB2.put RZ _ _
      · first | exact ⟨_, _, hod2.ra _, (by first | (simp; done) | (simp; omega) | omega), .inr (Nat.le_refl _), (by first | (simp; done) | (simp; omega) | omega)⟩ | exact ⟨_, _, hod2.rp2 (by first | (simp; done) | (simp; omega) | omega) _ _, (by first | (simp; done) | (simp; omega) | omega), .inl (by first | (simp; done) | (simp; omega) | omega), (by first | (simp; done) | (simp; omega) | omega)⟩
      · trivial
      · (repeat (first | exact bR _ _ | (refine bS ?_ _) | (refine bA ?_ _) | (refine bN ?_ _) | (refine bD ?_) | (refine bT ?_ hbd1) | (refine bT ?_ hbd2)))
  case rest =>
  obtain ⟨w1, b, oz, cz, rfl, rfl, hbW, O, how, hneb, hb⟩ := hcut
  (have X1 := X0.below hb (Nat.le_refl _); have R1 := R0.below hb (Nat.le_refl _); have hv1 := hv0.below hb (Nat.le_refl _); have B1 := B0.trans (hb.mono B0.size))
  obtain ⟨lo, hi, how, hlo, hbo, hhi⟩ := how
  obtain ⟨us, how⟩ := how.named
  obtain ⟨g, rfl, hgl, hgl'⟩ := how.row h1
  rw [axTo_0 xs.length xs 1] at how
  have B1s := B1.size
  have hlB : w.heap.size + 1 < lo := by omega
  obtain ⟨x0, x1⟩ := id X1
  go_wp2_with fail
  clear x0 x1
  go_loopw [16] (fun s wr => ∃ i : Nat, i ≤ xs.length ∧ s = .int .i64 i ∧ OwSU us lo hi wr (.slice (some ⟨g, 0, none⟩) xs.length cz) (axTo xs.length xs 1 i) ∧ Chg lo hi w1 wr) (fun i _ => xs.length - (intOf i).toNat)
  case atStart => exact ⟨0, Nat.zero_le _, rfl, how, Chg.refl _ _ _⟩
  case round =>
    obtain ⟨i, hi', rfl, hO, hC⟩ := hrel
    have Br := hC.below B1 (by omega) B1s
    obtain ⟨⟨z0, z1⟩, zf⟩ := O.chg hC hbo
    by_cases hlt : i < xs.length
    · have cx := (hv.below Br (Nat.le_refl _)).cell0 (some_at0 hlt)
      obtain ⟨o3, c3, hu3, cx3, how3, hbl3, hset3⟩ := hO.at (axTo_row (p := 0) (show 0 < xs.length by omega))
      rw [mk_len] at hu3 cx3 how3 hbl3 hset3
      obtain ⟨gr, rfl, hgr1, hgr2⟩ := how3.row (by omega)
      have hgr3 := hbl3 gr rfl
      have hc0 := how3.cell (k := i) (mk_get (show i < xs.length - 0 by omega))
      have hf0 := how3.fz i
      have hN := Lib.hid how3
      have hS := Lib.hid hset3
      have HSET := Lib.hid (axTo_set1 (xs := xs) hlt)
      clear how3 hset3 hbl3 hu3
      have i0 : (0 : Int) ≤ (i : Int) := by omega
      have i1 : (i : Int) < (xs.length : Int) := by omega
      have i2 : (0 : Int) < (xs.length : Int) := by omega
      have i3 : 0 < xs.length := by omega
      have i4 : (0 : Int) < ((xs.length - 0 : Nat) : Int) := by omega
      have i5 : 0 < xs.length - 0 := by omega
      have i6 : (i : Int) < ((xs.length - 0 : Nat) : Int) := by omega
      have hg0 := gr_put (World.grownBy.refl wr (some gr)) i (.int .i64 (at0 xs i))
      have hOn := hS.out _ _ (by rw [List.length_set, mk_len]) hg0 (hN.out.put i (at0 xs i))
      rw [HSET.out] at hOn
      have hCn := hC.grown hg0 hgr3.1 hgr3.2.1
      have HON := Lib.hid hOn
      have HCN := Lib.hid hCn
      clear hOn hCn hg0
      go_wp2
      exact ⟨⟨i + 1, by omega, by go_num, HON.out, HCN.out⟩, by simp [intOf]; omega⟩
    · obtain rfl : i = xs.length := by omega
      rw [axTo_n] at hO
      obtain ⟨⟨r0, r1⟩, rf⟩ := R1.chg hC (.inl hlB)
      go_wp2
      refine bodyPost_ret (v := .agg #[.int .i64 m, .slice (some ⟨g, 0, none⟩) xs.length cz]) (by simp [results, Tryz.results129, go_sem, r0, r1]) rfl ⟨_, rfl, ?_, ?_⟩
      · exact ((hO.r.ow.low hlB _).low hlB _).mono (by omega)
      · (repeat (first | exact bR _ _ | (refine bS ?_ _) | (refine bA ?_ _) | (refine bN ?_ _) | (refine bD ?_) | (refine bT ?_ Br)))

end Go.Proofs.YtoednonijmkbjaaGreat
/- Sums, products and compositions of series: the functions that are called. -/
set_option linter.unusedSimpArgs false
set_option linter.unusedVariables false
namespace Go.Proofs.YtoednonijmkbjaaGreat
open Go.RowKit

end Go.Proofs.YtoednonijmkbjaaGreat

/- Compositions of series: the reference, and the functions that are called. -/
set_option linter.unusedSimpArgs false
set_option linter.unusedVariables false
namespace Go.Proofs.YtoednonijmkbjaaGreat
open Go.RowKit

theorem horn_take {m : Int} {n : Nat} {f a : List Int} {k : Nat} (hk : k < a.length) : horn m n f (a.drop k) = addc m (at0 a k) (timesL m n (horn m n f (a.drop (k + 1))) f) := horn_drop (some_at0 hk)

set_option maxHeartbeats 2000000 in
set_option maxRecDepth 100000 in
theorem l02Compose_c (m d : Int) (n : Nat) (v u : Value) (xs fs : List Int) (w : World) (hd : d = (n : Int) - 1) (hv : RdI w v xs) (hu : RdI w u fs) (h1 : 1 ≤ n) (hl : 1 ≤ xs.length) (hn : n ≤ 1048576) (hm : 2 ≤ m) (hm' : m ≤ 10000)
    (hx : ∀ x ∈ xs, 0 ≤ x ∧ x < m) (hf : ∀ x ∈ fs, 0 ≤ x ∧ x < m) :
    Calls Tryz.prog 51 #[.int .i64 m, v, u, .int .i64 d] w fun e w' => ∃ v', e = .returned v' ∧ OwI w' w.heap.size v' (horn m n fs (xs.take n)) ∧ Below w.heap.size w w' := by
  subst hd
  obtain ⟨o, c, rfl, hmx, -⟩ := id hv
  obtain ⟨o', c', rfl, hmy, -⟩ := id hu
  have hml := hmx.1
  unfold maxLen at hmx hmy
  have m0 : (m == 0) = false := by simp; omega
  have m1 : ¬ m = 0 := by omega
  obtain ⟨bx, fx, rfl, -⟩ := hv.cells hl
  have hls : (xs.take n).length = min n xs.length := List.length_take
  have HR := Lib.hid (show ∀ k, k < (xs.take n).length → at0 (xs.take n) k = at0 xs k from fun k hk => by
    unfold at0 List.getD; rw [List.getElem?_take, if_pos (by omega)])
  generalize xs.take n = zs at hls HR ⊢
  obtain ⟨z, hz, hzz⟩ : ∃ z : Nat, min ((xs.length : Int) - 1) ((n : Int) - 1) = (z : Int) - 1 ∧ zs.length = z := ⟨zs.length, by omega, rfl⟩
  go_enter Tryz.func51, Tryz.ntmps51
  go_wp2_with (at_make; refine mkI _ rfl _ _ rfl _ _ _ n rfl rfl (by omega) (by omega) ?_; intro w1 hown hb hs1)
  all_goals
    clear hs1
    go_loopw [9, 10] (fun s i wr => ∃ (j : Nat) (ov : Option Addr) (cv : Nat), j ≤ zs.length ∧ i = .int .i64 ((j : Int) - 1) ∧ s = .slice ov n cv ∧ OwI wr w.heap.size (.slice ov n cv) (horn m n fs (zs.drop j)) ∧ Below w.heap.size w wr) (fun _ i _ => ((intOf i) + 1).toNat)
    case atStart => first | exact ⟨zs.length, _, _, Nat.le_refl _, by rw [hzz], rfl, by rw [List.drop_of_length_le (Nat.le_refl _)]; exact hown, hb⟩ | exact ⟨n, _, _, by omega, rfl, rfl, by rw [List.drop_of_length_le (by omega)]; exact hown, hb⟩ | exact ⟨xs.length, _, _, by omega, rfl, rfl, by rw [List.drop_of_length_le (by omega)]; exact hown, hb⟩
    case round =>
      obtain ⟨j, ov, cv, hj, rfl, rfl, hO, hB⟩ := hrel
      by_cases hlt : 0 < j
      · obtain ⟨k, rfl⟩ : ∃ k, j = k + 1 := ⟨j - 1, by omega⟩
        have ek : (((k + 1 : Nat) : Int)) - 1 = (k : Int) := by omega
        rw [ek]
        clear ek
        have HS := Lib.hid (horn_take (m := m) (n := n) (f := fs) (a := zs) (k := k) (by omega))
        rw [HR.out k (by omega)] at HS
        have HLl := Lib.hid (horn_len m n fs (zs.drop (k + 1)))
        have HRl := Lib.hid (horn_range (m := m) (show 0 < m by omega) (n := n) (f := fs) (cs := zs.drop (k + 1)))
        generalize horn m n fs (zs.drop (k + 1)) = l at hO HS HLl HRl
        have hkx := at0_range (by omega) hx k
        have i0 : (0 : Int) ≤ (k : Int) := by omega
        have i1 : (k : Int) < (xs.length : Int) := by omega
        have i2 : k < xs.length := by omega
        have n0 : 0 < n := h1
        have hBs := hB.size
        go_wp2_with (go_at_call 91; refine (l02Times_c m _ n _ _ l fs _ rfl hO.rd (hu.below hB (Nat.le_refl _)) h1 hn hm (by omega) HRl.out hf).mono ?_; rintro e w2 ⟨vt, rfl, how, hb2⟩; obtain ⟨ot, ct, rfl⟩ := how.shapeN (n := n) (timesL_len _ _ _ _))
        obtain ⟨g, rfl, hgl, hgl'⟩ := how.row h1
        have B2 := hB.trans (hb2.mono hBs)
        have cx := (hv.below B2 (Nat.le_refl _)).cell0 (some_at0 i2)
        have hT := at0_range (by omega) (timesL_range (m := m) (by omega) (n := n) (a := l) (b := fs)) 0
        have hc0 := how.cell (k := 0) (some_at0 (by rw [timesL_len]; omega))
        have hf0 := how.fz 0
        have hMod := mod_lt' (a := at0 (timesL m n l fs) 0 + at0 xs k) (show 0 < m by omega)
        have Hn := Lib.hid how
        clear how
        go_wp2_with fail
        have e1 : IntKind.i64.wrap (at0 (timesL m n l fs) 0 + at0 xs k) = at0 (timesL m n l fs) 0 + at0 xs k := IntWalk.i64_in _ (by omega)
        have e2 : (at0 (timesL m n l fs) 0 + at0 xs k).tmod m = (at0 (timesL m n l fs) 0 + at0 xs k) % m := Int.tmod_eq_emod_of_nonneg (by omega)
        go_still_tail 12, (by kernel_rfl)
        change wpList _ _ _ _ _ w2.drew
        go_wp2
        have h2 := OwI.put Hn.out 0 ((at0 (timesL m n l fs) 0 + at0 xs k) % m)
        rw [show (timesL m n l fs).set 0 ((at0 (timesL m n l fs) 0 + at0 xs k) % m) = addc m (at0 xs k) (timesL m n l fs) from rfl, ← HS.out] at h2
        exact ⟨⟨k, _, _, by omega, by go_num, rfl, h2.mono hBs, (below_put B2 (by omega) _).drew⟩, by simp [intOf]⟩
      · obtain rfl : j = 0 := by omega
        rw [List.drop_zero] at hO
        go_wp2
        go_ret
        exact ⟨_, rfl, hO, hB⟩

end Go.Proofs.YtoednonijmkbjaaGreat

/- Inverses, reversions and integrals of series: the reference's functions, and the program's integral. -/
set_option linter.unusedSimpArgs false
set_option linter.unusedVariables false
namespace Go.Proofs.YtoednonijmkbjaaGreat
open Go.RowKit

set_option maxHeartbeats 4000000 in
set_option maxRecDepth 100000 in
theorem l02Reverse_c (m d : Int) (n : Nat) (v : Value) (xs : List Int) (w : World) (hd : d + 1 = (n : Int)) (hv : RdI w v xs) (hl : xs.length = n) (h1 : 2 ≤ n) (hn : n ≤ 1000) (hm : 2 ≤ m) (hm' : m ≤ 10000) (hx : ∀ x ∈ xs, 0 ≤ x ∧ x < m) :
    Calls Tryz.prog 88 #[.int .i64 m, v, .int .i64 d] w fun e w' => ∃ v', e = .returned v' ∧ OwI w' w.heap.size v' (revL m n xs) ∧ Below w.heap.size w w' := by
  subst hl
  obtain ⟨o, c, rfl, hmx, -⟩ := id hv
  unfold maxLen at hmx
  obtain ⟨bx, fx, rfl, hcx⟩ := hv.cells (by omega)
  have cx : w.cell? ⟨bx, fx + 1, none⟩ = some (.int .i64 (at0 xs 1)) := hcx 1 _ (some_at0 (by omega))
  have lx := cell_lt cx
  have hxr := at0_range (by omega) hx 1
  obtain ⟨u, hu⟩ : ∃ u, u = invM m (at0 xs 1) := ⟨_, rfl⟩
  have hur : 0 ≤ u ∧ u < m := by rw [hu]; exact invM_range (by omega) _
  have HU := Lib.hid hu
  clear hcx hu
  have i1 : (1 : Int) < (xs.length : Int) := by omega
  have i2 : 1 < xs.length := by omega
  go_enter Tryz.func88, Tryz.ntmps88
  go_wp2_with (first | (at_make; go_loud (refine mkI _ rfl _ _ rfl _ _ _ xs.length rfl rfl rfl (by omega) ?_; intro w1 hown hb hs1; have cx1 := keep_cell hb (Nat.le_refl _) cx; have hc0 := hown.cell (k := 1) (rep_get xs.length 1 0 (by omega)); have hf0 := hown.fz 1; have Hown := Lib.hid hown; clear hown; have Hs1 := Lib.hid hs1; clear hs1)) | (go_at_call 48; refine (l01Inv_c m (at0 xs 1) _ hm (by omega) (by omega) (by omega)).mono ?_; rw [← HU.out]; rintro e w' ⟨rfl, rfl⟩))
  have hOz := Hown.out.put 1 u
  have hbz := below_put hb (g := w.heap.size) (k := 1) (Nat.le_refl _) (.int .i64 u)
  rw [HU.out, rep_set1, ← HU.out] at hOz
  clear hc0 hf0 Hown cx1 Hs1 hb
  generalize w1.setCell ⟨w.heap.size, 1, none⟩ (.int .i64 u) = w2 at hOz hbz ⊢
  go_loopw [9, 10] (fun i _ wr => ∃ k : Nat, k + 2 ≤ xs.length ∧ i = .int .i64 ((k : Int) + 2) ∧ OwI wr w.heap.size (.slice (some ⟨w.heap.size, 0, none⟩) xs.length xs.length) (revTo m xs.length xs (k + 1)) ∧ Below w.heap.size w wr) (fun i _ _ => xs.length - (intOf i).toNat)
  case atStart => exact ⟨0, by omega, by go_num, hOz, hbz⟩
  case round =>
    clear hOz hbz
    obtain ⟨k, hk, rfl, hO, hB⟩ := hrel
    have hBs := hB.size
    by_cases hlt : k + 2 < xs.length
    · have i3 : (0 : Int) ≤ (k : Int) + 2 := by omega
      have i4 : (k : Int) + 2 ≤ d := by omega
      have i5 : (k : Int) + 2 < (xs.length : Int) := by omega
      have i6 : ((k : Int) + 2).toNat = k + 2 := by omega
      have i7 : (k : Int) + 2 < ((k + 3 : Nat) : Int) := by omega
      have HS := Lib.hid (rev_step (m := m) (show 0 < m by omega) (n := xs.length) (k := k) (a := xs) hlt)
      have HN := Lib.hid (show (revTo m xs.length xs (k + 1)).set (k + 2) ((-(at0 (horn m xs.length (revTo m xs.length xs (k + 1)) xs) (k + 2)) * u) % m) = revTo m xs.length xs (k + 1 + 1) by rw [HU.out]; rfl)
      have HLl := Lib.hid (revTo_len m xs.length xs (k + 1))
      have HRl := Lib.hid (revTo_range (m := m) (show 0 < m by omega) xs.length xs (k + 1))
      rw [← HU.out] at HS
      obtain ⟨q, hq⟩ : ∃ q, q = horn m (k + 3) (revTo m xs.length xs (k + 1)) (xs.take (k + 3)) := ⟨_, rfl⟩
      have HQ := Lib.hid hq
      have hql : q.length = k + 3 := by rw [hq]; exact horn_len _ _ _ _
      have hqr : 0 ≤ at0 q (k + 2) ∧ at0 q (k + 2) < m := at0_range (by omega) (by rw [hq]; exact horn_range (by omega)) _
      rw [← hq] at HS
      have HN2 := Lib.hid (show (revTo m xs.length xs (k + 1)).set (k + 2) ((m - at0 q (k + 2)) * u % m) = revTo m xs.length xs (k + 1 + 1) by rw [HS.out]; exact HN.out)
      clear hq HN HS
      have m0 : (m == 0) = false := by simp; omega
      have m1 : ¬ m = 0 := by omega
      have hp := Int.mul_nonneg (show 0 ≤ m - at0 q (k + 2) by omega) hur.1
      have hp2 : (m - at0 q (k + 2)) * u ≤ 10000 * 10000 := Int.mul_le_mul (by omega) (by omega) hur.1 (by omega)
      have e1 : IntKind.i64.wrap (m - at0 q (k + 2)) = m - at0 q (k + 2) := IntWalk.i64_in _ (by omega)
      have e2 : IntKind.i64.wrap ((m - at0 q (k + 2)) * u) = (m - at0 q (k + 2)) * u := IntWalk.i64_in _ (by omega)
      have e3 : ((m - at0 q (k + 2)) * u).tmod m = (m - at0 q (k + 2)) * u % m := Int.tmod_eq_emod_of_nonneg (by omega)
      go_wp2_with (go_at_call 51; refine (l02Compose_c m _ (k + 3) _ _ xs (revTo m xs.length xs (k + 1)) _ (by omega) (hv.below hB (Nat.le_refl _)) hO.rd (by omega) (by omega) (by omega) hm hm' hx HRl.out).mono ?_; rw [← HQ.out]; rintro e w3 ⟨vp, rfl, hop, hb3⟩; obtain ⟨op, cp, rfl⟩ := hop.shapeN (n := k + 3) hql; obtain ⟨gp, rfl, hgp, hgp'⟩ := hop.row (by omega); have hcv := hop.cell (k := k + 2) (some_at0 (show k + 2 < q.length by omega)); have hO3 := hO.below hb3; have hB3 := hB.trans (hb3.mono hBs); have hc9 := hO3.cell (k := k + 2) (some_at0 (show k + 2 < (revTo m xs.length xs (k + 1)).length by rw [HLl.out]; omega)); have hf9 := hO3.fz (k + 2); have Hn := Lib.hid hO3; clear hO3 hop)
      have hOn := Hn.out.put (k + 2) ((m - at0 q (k + 2)) * u % m)
      rw [HN2.out] at hOn
      have hbn := below_put hB3 (g := w.heap.size) (k := k + 2) (Nat.le_refl _) (.int .i64 ((m - at0 q (k + 2)) * u % m))
      exact ⟨⟨k + 1, by omega, by go_num, by first | exact hOn | exact hOn.drewN 1, by first | exact hbn | exact hbn.drew⟩, by simp [intOf]; omega⟩
    · have hk' : xs.length = k + 2 := by omega
      rw [revP_end hk'] at hO
      have i1 : ¬ (k : Int) + 2 ≤ d := by omega
      clear hk'
      go_wp2
      go_ret
      exact ⟨_, rfl, hO, hB⟩

end Go.Proofs.YtoednonijmkbjaaGreat
set_option linter.unusedSimpArgs false
set_option linter.unusedVariables false
namespace Go.Proofs.YtoednonijmkbjaaGreat
open Go.RowKit

def numbT (m a : Int) (n : Nat) : List (List Int) := tri n (fun i j => if i = 0 ∧ j = 0 then a % m else 0)
theorem numbT_len (m a : Int) (n : Nat) : (numbT m a n).length = n := tri_len _ _
theorem numbT_ok {m : Int} (hm : 0 < m) (a : Int) (n : Nat) : PlaT m n (numbT m a n) := tri_ok fun i j _ => by
  split
  · exact mod_lt' hm
  · omega
theorem numbT_0 (m : Int) (n : Nat) : numbT m 0 n = zeroT n := tri_ext fun i j _ => by split <;> simp
theorem zeroT_get {n i : Nat} (h : i < n) : (zeroT n)[i]? = some (mk (n - i) (fun _ => 0)) := tri_get h
theorem zeroT_set {n : Nat} (h : 0 < n) (m a : Int) : (zeroT n).set 0 ((mk (n - 0) (fun _ => 0)).set 0 (a % m)) = numbT m a n := tri_set (f := fun _ _ => 0) (by omega)

set_option maxHeartbeats 2000000 in
set_option maxRecDepth 100000 in
theorem number_c (m a : Int) (o : Option Addr) (n c : Nat) (w : World) (h1 : 1 ≤ n) (hn : n ≤ 1000) (hm : 2 ≤ m) (hm' : m ≤ 1000000000000) (ha : -9000000000000000000 ≤ a) (ha' : a ≤ 9000000000000000000) :
    Calls Tryz.prog 131 #[.agg #[.int .i64 m, .slice o n c], .int .i64 a] w fun e w' => PVEnd w w' m (numbT m a n) e := by
  go_enter Tryz.func131, Tryz.ntmps131
  go_wp2_with fail
  (have X0 := ((RB2.mk1 w  (.int .i64 m) (.slice o n c) 31).1).below (w' := ((w.alloc (.cells #[.int .i64 m, .slice o n c] 31)).alloc (.cells #[.int .i64 0, .slice none 0 0] 31))) (by (repeat (first | exact bR _ _ | (refine bS ?_ _) | (refine bA ?_ _) | (refine bN ?_ _) | (refine bD ?_)))) (Nat.le_refl _); have R0 := ((RB2.mk2 w (.cells #[.int .i64 m, .slice o n c] 31) (.int .i64 0) (.slice none 0 0) 31)).below (w' := ((w.alloc (.cells #[.int .i64 m, .slice o n c] 31)).alloc (.cells #[.int .i64 0, .slice none 0 0] 31))) (by (repeat (first | exact bR _ _ | (refine bS ?_ _) | (refine bA ?_ _) | (refine bN ?_ _) | (refine bD ?_)))) (Nat.le_refl _); have B0 : Below w.heap.size w ((w.alloc (.cells #[.int .i64 m, .slice o n c] 31)).alloc (.cells #[.int .i64 0, .slice none 0 0] 31)) := (by (repeat (first | exact bR _ _ | (refine bS ?_ _) | (refine bA ?_ _) | (refine bN ?_ _) | (refine bD ?_)))); generalize (w.alloc (.cells #[.int .i64 m, .slice o n c] 31)).alloc (.cells #[.int .i64 0, .slice none 0 0] 31) = w0 at X0 R0 B0  ⊢)
  have hzl : w.heap.size + 1 < w0.heap.size := R0.1.lt
  go_cut [5] (fun sb u => ∃ (wz : World) (b : Nat) (oz : Option Addr) (cz : Nat), wz = u ∧ sb = .pointer (some ⟨b, 0, none⟩) ∧ w0.heap.size ≤ b ∧ RB2 u b (.int .i64 m) (.slice oz n cz) ∧ (∃ lo hi, OwSR lo hi u (.slice oz n cz) (zeroT n) ∧ w0.heap.size ≤ lo ∧ (b < lo ∨ hi ≤ b) ∧ hi ≤ u.heap.size) ∧ True ∧ Below w0.heap.size w0 u)
  case first =>
    have hd0 : Below w0.heap.size w0 w0.drew := (Below.refl _ _).drew
    have hsd0 := hd0.size
    have hlb_X0 := X0.lt
    obtain ⟨q0_X0_0, q0_X0_1⟩ := X0.below (Below.refl w0.heap.size w0) (Nat.le_refl _)
    have hne0_X0 : w0.heap.size ≠ w.heap.size := by omega
    go_region_held3 (fun w' => w'.cell? ⟨w.heap.size, 0, none⟩ = some (.int .i64 m) ∧ w'.cell? ⟨w.heap.size, 1, none⟩ = some (.slice o n c)) (go_keep)
      (first
        | (go_at_call 54; refine (degreeP_c m o n c _ (by unfold maxLen; omega)).mono ?_; rintro e wd1 ⟨rfl, hbd1⟩; have hd1 : Below w0.heap.size w0 wd1 := (by (repeat (first | exact bR _ _ | (refine bS ?_ _) | (refine bA ?_ _) | (refine bN ?_ _) | (refine bD ?_) | (refine bT ?_ hbd1)))); have hsd1 := hd1.size; have hsz1_ := hbd1.size; (try simp at hsz1_); obtain ⟨q1_X0_0, q1_X0_1⟩ := X0.below hd1 (Nat.le_refl _); have hne1_X0 : wd1.heap.size ≠ w.heap.size := (by omega); (try (have RZ := RZ.below hbd1 (Nat.le_refl _))); (try (have RZ := (show RB2 (w0.alloc (.cells #[.int .i64 0, .slice none 0 0] 31)).drew w0.heap.size (.int .i64 0) (.slice none 0 0) from RB2.mk1 w0 (.int .i64 0) (.slice none 0 0) _).below hbd1 (Nat.le_refl _))); (try (obtain ⟨⟨z1_0, z1_1⟩, zf1⟩ := id RZ)))
        | (go_at_call 98; refine (emptyPlane_c m ((n : Int) - 1) n _ rfl hn).mono ?_; rintro e wd2 ⟨vz2, rfl, hod2, hbd2⟩; obtain ⟨oz, cz, rfl⟩ := hod2.shapeN (n := n) (zeroT_len n); have hd2 : Below w0.heap.size w0 wd2 := (by (repeat (first | exact bR _ _ | (refine bS ?_ _) | (refine bA ?_ _) | (refine bN ?_ _) | (refine bD ?_) | (refine bT ?_ hbd1) | (refine bT ?_ hbd2)))); have hsd2 := hd2.size; have hsz2_ := hbd2.size; (try simp at hsz2_); obtain ⟨q2_X0_0, q2_X0_1⟩ := X0.below hd2 (Nat.le_refl _); have hne2_X0 : wd2.heap.size ≠ w.heap.size := (by omega); (try (have RZ := RZ.below hbd2 (Nat.le_refl _))); (try (have RZ := (show RB2 (wd1.alloc (.cells #[.int .i64 0, .slice none 0 0] 31)) wd1.heap.size (.int .i64 0) (.slice none 0 0) from RB2.mk1 wd1 (.int .i64 0) (.slice none 0 0) _).below hbd2 (Nat.le_refl _))); (try (obtain ⟨⟨z2_0, z2_1⟩, zf2⟩ := id RZ))))
    all_goals
      go_wp2_with fail
      go_meet
      refine ⟨_, _, oz, cz, rfl, rfl, ?_, ?_, ?_, ?_, ?_⟩
      · first | omega | (simp; done) | (simp; omega)
      · first | exact RB2.mk1 _ _ _ _ | exact RB2.put RZ _ _
      · first | exact ⟨_, _, hod2.ra _, (by first | (simp; done) | (simp; omega) | omega), .inr (Nat.le_refl _), (by first | (simp; done) | (simp; omega) | omega)⟩ | exact ⟨_, _, hod2.rp2 (by first | (simp; done) | (simp; omega) | omega) _ _, (by first | (simp; done) | (simp; omega) | omega), .inl (by first | (simp; done) | (simp; omega) | omega), (by first | (simp; done) | (simp; omega) | omega)⟩
      · trivial
      · (repeat (first | exact bR _ _ | (refine bS ?_ _) | (refine bA ?_ _) | (refine bN ?_ _) | (refine bD ?_) | (refine bT ?_ hbd1) | (refine bT ?_ hbd2)))
  case rest =>
  obtain ⟨w1, b, oz, cz, rfl, rfl, hbW, O, how, hneb, hb⟩ := hcut
  (have X1 := X0.below hb (Nat.le_refl _); have R1 := R0.below hb (Nat.le_refl _); have B1 := B0.trans (hb.mono B0.size))
  obtain ⟨lo, hi, how, hlo, hbo, hhi⟩ := how
  obtain ⟨us, how⟩ := how.named
  obtain ⟨g, rfl, hgl, hgl'⟩ := how.row h1
  obtain ⟨o1, c1, hu1, cx1, how1, hbl1, hset1⟩ := how.at (zeroT_get (show 0 < n by omega))
  rw [mk_len] at cx1 how1 hbl1 hset1 hu1
  obtain ⟨gr, rfl, hgr1, hgr2⟩ := how1.row (by omega)
  have hgr3 := hbl1 gr rfl
  have hc0 := how1.cell (k := 0) (mk_get (show 0 < n - 0 by omega))
  have hf0 := how1.fz 0
  have Hn := Lib.hid how1
  have HS := Lib.hid hset1
  clear how1 hset1 hbl1 hu1
  have B1s := B1.size
  have hlB : w.heap.size + 1 < lo := by omega
  obtain ⟨x0, x1⟩ := id X1
  obtain ⟨⟨z0, z1⟩, zf⟩ := id O
  have i1 : (0 : Int) < ((n - 0 : Nat) : Int) := by omega
  have i2 : (0 : Int) < (n : Int) := by omega
  have i3 : 0 < n := by omega
  go_wp2_with fail
  go_still_tail 9, (by kernel_rfl)
  still_call (stillC (mod_c _ _ _ (by omega) (by omega) (by omega) (by omega)))
  repeat still_step
  refine wpStill_nil ?_
  change wpList _ _ _ _ _ w1.drew
  have hg0 := gr_put (World.grownBy.refl w1 (some gr)) 0 (.int .i64 (a % m))
  have hO := HS.out _ _ (by rw [List.length_set, mk_len]) hg0 (Hn.out.put 0 (a % m))
  rw [zeroT_set h1] at hO
  have hC := (Chg.refl lo hi w1).grown hg0 hgr3.1 hgr3.2.1
  obtain ⟨⟨p0, p1⟩, pf⟩ := O.chg hC hbo
  obtain ⟨⟨r0, r1⟩, rf⟩ := R1.chg hC (.inl hlB)
  have Br := hC.below B1 (by omega) B1s
  clear cx1 x0 x1 z0 z1 zf
  go_wp2
  refine bodyPost_ret (v := .agg #[.int .i64 m, .slice (some ⟨g, 0, none⟩) n cz]) (by simp [results, Tryz.results131, go_sem, r0, r1]) rfl ⟨_, rfl, ?_, ?_⟩
  · exact ((hO.r.ow.low hlB _).low hlB _).mono (by omega)
  · (repeat (first | exact bR _ _ | (refine bS ?_ _) | (refine bA ?_ _) | (refine bN ?_ _) | (refine bD ?_) | (refine bT ?_ B1)))

end Go.Proofs.YtoednonijmkbjaaGreat
set_option linter.unusedSimpArgs false
set_option linter.unusedVariables false
namespace Go.Proofs.YtoednonijmkbjaaGreat
open Go.RowKit

def RdM (w : World) (v : Value) (l : List (Int × List Int)) : Prop :=
  ∃ o c, v = .slice o l.length c ∧ (l.length ≤ maxLen ∧ l.length ≤ c ∧ (o = none → c = 0)) ∧
    (∀ (k : Nat) (p : Int × List Int), l[k]? = some p → ∃ b off u, o = some ⟨b, off, none⟩ ∧ w.cell? ⟨b, off + k * 2, none⟩ = some (.int .i64 p.1) ∧ w.cell? ⟨b, off + k * 2 + 1, none⟩ = some u ∧ RdI w u p.2)
theorem RdM.below {B : Nat} {w w' : World} {v : Value} {l : List (Int × List Int)} (h : RdM w v l) (hb : Below B w w') (hB : w.heap.size ≤ B) : RdM w' v l := by
  obtain ⟨o, c, rfl, hm, hc⟩ := h
  refine ⟨o, c, rfl, hm, fun k row hx => ?_⟩
  obtain ⟨b, off, u, ho, h0, h1, hr⟩ := hc k row hx
  exact ⟨b, off, u, ho, keep_cell hb hB h0, keep_cell hb hB h1, hr.below hb hB⟩
theorem RdM.len {w : World} {o : Option Addr} {n c : Nat} {l : List (Int × List Int)} (h : RdM w (.slice o n c) l) : n = l.length ∧ l.length ≤ maxLen ∧ l.length ≤ c := by
  obtain ⟨o', c', heq, hm, hc⟩ := h
  obtain ⟨rfl, rfl, rfl⟩ : o = o' ∧ n = l.length ∧ c = c' := by simpa using heq
  exact ⟨rfl, hm.1, hm.2.1⟩
theorem RdM.base {w : World} {o : Option Addr} {n c : Nat} {l : List (Int × List Int)} (h : RdM w (.slice o n c) l) (hx : 1 ≤ l.length) : ∃ b off, o = some ⟨b, off, none⟩ := by
  obtain ⟨o', c', heq, hm, hc⟩ := h
  obtain ⟨rfl, rfl, rfl⟩ : o = o' ∧ n = l.length ∧ c = c' := by simpa using heq
  obtain ⟨b, off, u, ho, -⟩ := hc 0 l[0] (by simp)
  exact ⟨b, off, ho⟩
theorem RdM.at {w : World} {b off n c : Nat} {l : List (Int × List Int)} (h : RdM w (.slice (some ⟨b, off, none⟩) n c) l) {k : Nat} (hk : k < l.length) :
    ∃ o c, w.cell? ⟨b, off + k * 2, none⟩ = some (.int .i64 l[k].1) ∧ w.cell? ⟨b, off + k * 2 + 1, none⟩ = some (.slice o l[k].2.length c) ∧ RdI w (.slice o l[k].2.length c) l[k].2 := by
  obtain ⟨o', c', heq, hm, hc⟩ := h
  obtain ⟨rfl, -, -⟩ : some ⟨b, off, none⟩ = o' ∧ n = l.length ∧ c = c' := by simpa using heq
  obtain ⟨b', off', u, ho, h0, h1, h2⟩ := hc k l[k] (by simp [hk])
  obtain ⟨rfl, rfl⟩ : b = b' ∧ off = off' := by simpa using ho
  obtain ⟨o, c, he, -, -⟩ := id h2
  rw [he] at h1 h2
  exact ⟨o, c, h0, h1, h2⟩
theorem RdM.lit1 (w : World) (m : Int) (u : Value) (xs : List Int) (hu : RdI w u xs) : RdM (w.alloc (.cells #[.int .i64 m, u] 28)) (.slice (some ⟨w.heap.size, 0, none⟩) 1 1) [(m, xs)] := by
  have hb : Below w.heap.size w (w.alloc (.cells #[.int .i64 m, u] 28)) := (Below.refl _ _).alloc (Nat.le_refl _) _
  refine ⟨_, _, rfl, ⟨by simp [maxLen], by simp, fun h => by cases h⟩, fun k p hk => ?_⟩
  have : k = 0 := by have := (List.getElem?_eq_some_iff.1 hk).1; simp at this; omega
  subst this
  simp at hk
  subst hk
  exact ⟨_, 0, u, rfl, by simp, by simp, hu.below hb (Nat.le_refl _)⟩
end Go.Proofs.YtoednonijmkbjaaGreat
