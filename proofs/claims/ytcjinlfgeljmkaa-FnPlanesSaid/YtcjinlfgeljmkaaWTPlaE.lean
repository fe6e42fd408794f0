/- Lemmas of PlaE. -/
import Derived.Test.YtcjinlfgeljmkaaWTPlaD
import Derived.Test.YtcjinlfgeljmkaaWTPlaT
import Derived.Test.YtcjinlfgeljmkaaWTSame
set_option linter.unusedSimpArgs false
set_option linter.unusedVariables false
namespace Go.Proofs.Ytcjinlfgeljmkaa
open Go.RowKit

def trnTo (n : Nat) (g : Nat → Nat → Int) (i j : Nat) : List (List Int) := tri n (fun a b => if b < i ∨ (b = i ∧ a < j) then g b a else 0)
theorem trnTo_0 (n : Nat) (g : Nat → Nat → Int) : zeroT n = trnTo n g 0 0 := tri_ext fun i j _ => by simp
def trnRow (n : Nat) (g : Nat → Nat → Int) (i j : Nat) : List Int := mk (n - j) (fun b => if b < i then g b j else 0)
theorem trnRow_len (n : Nat) (g : Nat → Nat → Int) (i j : Nat) : (trnRow n g i j).length = n - j := mk_len _ _
theorem trnTo_get {n : Nat} {g : Nat → Nat → Int} {i j : Nat} (h : j < n) : (trnTo n g i j)[j]? = some (trnRow n g i j) := by
  unfold trnTo; rw [tri_get h]; congr 1; exact mk_ext fun b _ => by simp
theorem trnTo_set {n : Nat} {g : Nat → Nat → Int} {i j : Nat} (h : i + j < n) : (trnTo n g i j).set j ((trnRow n g i j).set i (g i j)) = trnTo n g i (j + 1) := by
  have e : trnRow n g i j = mk (n - j) ((fun a b => if b < i ∨ (b = i ∧ a < j) then g b a else 0) j) := mk_ext fun b _ => by simp
  unfold trnTo
  rw [e, tri_set (by omega)]
  refine tri_ext fun a b hab => ?_
  by_cases e1 : a = j ∧ b = i
  · obtain ⟨rfl, rfl⟩ := e1; simp
  · rw [if_neg e1]
    by_cases e2 : b < i ∨ (b = i ∧ a < j)
    · rw [if_pos e2, if_pos (by omega)]
    · rw [if_neg e2, if_neg (by omega)]
theorem trnTo_row {n : Nat} {g : Nat → Nat → Int} {i : Nat} : trnTo n g i (n - i) = trnTo n g (i + 1) 0 := tri_ext fun a b hab => by
  by_cases e : b < i ∨ (b = i ∧ a < n - i)
  · rw [if_pos e, if_pos (by omega)]
  · rw [if_neg e, if_neg (by omega)]
theorem trnTo_all (n : Nat) (g : Nat → Nat → Int) : trnTo n g n 0 = tri n (fun i j => g j i) := tri_ext fun a b hab => by rw [if_pos (by omega)]
theorem turn_all {m : Int} {n : Nat} {t : List (List Int)} (h : PlaT m n t) : trnTo n (atT t) n 0 = turnT m t := by
  rw [trnTo_all]
  unfold turnT
  rw [h.1]
  refine tri_ext fun i j hij => ?_
  obtain ⟨_, _, _, _, h1, h2⟩ := h.at (i := j) (j := i) (by omega)
  exact (Int.emod_eq_of_lt h1 h2).symm

set_option maxHeartbeats 4000000 in
set_option maxRecDepth 100000 in
theorem l03Turn_c (m : Int) (n : Nat) (v : Value) (xss : List (List Int)) (w : World) (hv : RdT w v xss) (h1 : 1 ≤ n) (hn : n ≤ 1000) (hx : PlaT m n xss) :
    Calls Try.prog 165 #[v] w fun e w' => ∃ v', e = .returned v' ∧ OwS w' w.heap.size v' (turnT m xss) ∧ Below w.heap.size w w' := by
  obtain ⟨o, c, rfl, hmx, -⟩ := id hv
  rw [hx.1] at hmx ⊢
  unfold maxLen at hmx
  have hv' : RdT w (.slice o n c) xss := by rw [hx.1] at hv; exact hv
  clear hv
  have HX := Lib.hid hx
  have hxl := hx.1
  clear hx
  obtain ⟨bx, fx, rfl, -⟩ := hv'.rows (by omega)
  clear hxl
  go_enter Try.func165, Try.ntmps165
  go_wp2_with (go_at_call 216; refine (l03Zero_c ((n : Int) - 1) n _ rfl hn).mono ?_; rintro e w2 ⟨vz, rfl, how, B2⟩; obtain ⟨oz, cz, rfl⟩ := how.shapeN (n := n) (zeroT_len n))
  have how := how.toR
  obtain ⟨hi, hhi⟩ : ∃ hi, w2.heap.size = hi := ⟨_, rfl⟩
  rw [hhi] at how
  obtain ⟨us, how⟩ := how.named
  obtain ⟨g, rfl, hgl, hgl'⟩ := how.row h1
  rw [trnTo_0 n (atT xss)] at how
  have B2s := B2.size
  go_loopw [4] (fun s wr => ∃ i : Nat, i ≤ n ∧ s = .int .i64 i ∧ OwSU us w.heap.size hi wr (.slice (some ⟨g, 0, none⟩) n cz) (trnTo n (atT xss) i 0) ∧ Chg w.heap.size hi w2 wr) (fun i _ => n - (intOf i).toNat)
  case atStart => exact ⟨0, Nat.zero_le _, rfl, how, Chg.refl _ _ _⟩
  case round =>
    obtain ⟨i, hi', rfl, hO, hC⟩ := hrel
    by_cases hlt : i < n
    · obtain ⟨r1, hr1, hl1, hj1⟩ := HX.out.row hlt
      obtain ⟨p1, q1, cx0, rx0⟩ := hv'.row hr1
      rw [hl1] at cx0 rx0
      obtain ⟨b1, f1, rfl, -⟩ := rx0.cells (by omega)
      have i0 : (0 : Int) ≤ (i : Int) := by omega
      have i1 : (i : Int) < (n : Int) := by omega
      have HJ := Lib.hid hj1
      clear hr1 hl1 hj1
      go_wp2_with fail
      go_loopw [5] (fun s wr => ∃ j : Nat, j ≤ n - i ∧ s = .int .i64 j ∧ OwSU us w.heap.size hi wr (.slice (some ⟨g, 0, none⟩) n cz) (trnTo n (atT xss) i j) ∧ Chg w.heap.size hi w2 wr) (fun i' _ => n - i - (intOf i').toNat)
      case atStart => exact ⟨0, Nat.zero_le _, rfl, hO, hC⟩
      case round =>
        obtain ⟨j, hj, rfl, hO, hC⟩ := hrel
        have Br := hC.below B2 (by omega) B2s
        have cx := keep_cell Br (Nat.le_refl _) cx0
        by_cases hjl : j < n - i
        · have ex := (rx0.below Br (Nat.le_refl _)).cell0 (HJ.out j hjl)
          obtain ⟨o2, c2', hu2, cx2, how2, hbl2, hset2⟩ := hO.at (trnTo_get (show j < n by omega))
          rw [trnRow_len] at hu2 cx2 how2 hbl2 hset2
          obtain ⟨gr, rfl, hgr1, hgr2⟩ := how2.row (by omega)
          have hgr3 := hbl2 gr rfl
          have HS2 := Lib.hid hset2
          clear hu2 hbl2 hset2
          have hc0 := how2.cell (k := i) (x := 0) (by unfold trnRow; rw [mk_get (by omega)]; simp)
          have hf0 := how2.fz i
          have Hn := Lib.hid how2
          clear how2
          have j0 : (0 : Int) ≤ (j : Int) := by omega
          have j1 : (j : Int) < ((n - i : Nat) : Int) := by omega
          have j2 : (j : Int) < (n : Int) := by omega
          have j3 : (i : Int) < ((n - j : Nat) : Int) := by omega
          go_wp2_with fail
          have hO3 := HS2.out _ _ (by rw [List.length_set, trnRow_len]) (gr_put (World.grownBy.refl wr (some gr)) i (.int .i64 (atT xss i j))) (Hn.out.put i (atT xss i j))
          rw [trnTo_set (by omega)] at hO3
          have hC3 := hC.grown (grown_put wr gr i (.int .i64 (atT xss i j))) hgr3.1 hgr3.2.1
          exact ⟨⟨j + 1, by omega, by go_num, hO3, hC3⟩, by simp [intOf]; omega⟩
        · obtain rfl : j = n - i := by omega
          rw [trnTo_row] at hO
          go_wp2
          exact ⟨⟨i + 1, by omega, by go_num, hO, hC⟩, by simp [intOf]; omega⟩
    · obtain rfl : i = n := by omega
      rw [turn_all HX.out] at hO
      have Br := hC.below B2 (by omega) B2s
      go_wp2
      go_ret
      exact ⟨_, rfl, hO.r.ow, Br⟩

def symC (m : Int) (t : List (List Int)) : Bool × Int := if plaB m t then (eqTB t (turnT m t), 0) else (false, 1)
def BEnd2 (w w' : World) (r : Bool × Int) (e : Ending) : Prop := e = .returned (.tuple #[.bool r.1, .int .i64 r.2]) ∧ Below w.heap.size w w'
set_option maxHeartbeats 2000000 in
set_option maxRecDepth 100000 in
theorem IsSymmetricPlane_c (m : Int) (v : Value) (xs : List (List Int)) (w : World) (hv : RdT w v xs) :
    Calls Try.prog 56 #[.agg #[.int .i64 m, v]] w fun e w' => BEnd2 w w' (symC m xs) e := by
  obtain ⟨o, c, rfl, -, -⟩ := id hv
  cases h1 : plaB m xs
  · have hR : symC m xs = (false, 1) := by simp [symC, h1]
    rw [hR]
    clear hR
    go_enter Try.func56, Try.ntmps56
    go_wp2_with fail
    (have X0 := ((RB2.mk1 w  (.int .i64 m) (.slice o xs.length c) 42).1).below (w' := (w.alloc (.cells #[.int .i64 m, .slice o xs.length c] 42))) (by (repeat (first | exact Below.refl _ _ | (refine Below.setCell ?_ (by first | (simp; done) | (simp; omega) | omega) _) | (refine Below.alloc ?_ (by first | (simp; done) | (simp; omega) | omega) _) | (refine below_drewN ?_ _) | (refine Below.drew ?_)))) (Nat.le_refl _); have B0 : Below w.heap.size w (w.alloc (.cells #[.int .i64 m, .slice o xs.length c] 42)) := (by (repeat (first | exact Below.refl _ _ | (refine Below.setCell ?_ (by first | (simp; done) | (simp; omega) | omega) _) | (refine Below.alloc ?_ (by first | (simp; done) | (simp; omega) | omega) _) | (refine below_drewN ?_ _) | (refine Below.drew ?_)))); have hv0 := hv.below (w' := (w.alloc (.cells #[.int .i64 m, .slice o xs.length c] 42))) (by (repeat (first | exact Below.refl _ _ | (refine Below.setCell ?_ (by first | (simp; done) | (simp; omega) | omega) _) | (refine Below.alloc ?_ (by first | (simp; done) | (simp; omega) | omega) _) | (refine below_drewN ?_ _) | (refine Below.drew ?_)))) (Nat.le_refl _); generalize w.alloc (.cells #[.int .i64 m, .slice o xs.length c] 42) = w0 at X0 B0 hv0 ⊢)
    (obtain ⟨gqX0, gqX1⟩ := id X0; go_wp2_with fail; refine (IsPlane_c m _ xs _ hv0).mono ?_; rw [h1]; rintro e w1 ⟨rfl, hb⟩; (have X1 := X0.below hb (Nat.le_refl _); have hv1 := hv0.below hb (Nat.le_refl _); have B1 := B0.trans (hb.mono B0.size)); clear gqX0 gqX1; clear hb)
    go_wp2
    exact bodyPost_ret (v := .tuple #[.bool false, .int .i64 1]) (by simp [results, Try.results56, go_sem]) rfl ⟨rfl, B1⟩
  · have hn := pla_n h1
    have hm := pla_m h1
    have hx := pla_row h1
    have HX := Lib.hid hx
    have hR : symC m xs = (eqTB xs (turnT m xs), 0) := by simp [symC, h1]
    rw [hR]
    clear hR hx
    have HE := Lib.hid (show eqPB m xs m (turnT m xs) = eqTB xs (turnT m xs) by simp [eqPB])
    go_enter Try.func56, Try.ntmps56
    go_wp2_with fail
    (have X0 := ((RB2.mk1 w  (.int .i64 m) (.slice o xs.length c) 42).1).below (w' := (w.alloc (.cells #[.int .i64 m, .slice o xs.length c] 42))) (by (repeat (first | exact Below.refl _ _ | (refine Below.setCell ?_ (by first | (simp; done) | (simp; omega) | omega) _) | (refine Below.alloc ?_ (by first | (simp; done) | (simp; omega) | omega) _) | (refine below_drewN ?_ _) | (refine Below.drew ?_)))) (Nat.le_refl _); have B0 : Below w.heap.size w (w.alloc (.cells #[.int .i64 m, .slice o xs.length c] 42)) := (by (repeat (first | exact Below.refl _ _ | (refine Below.setCell ?_ (by first | (simp; done) | (simp; omega) | omega) _) | (refine Below.alloc ?_ (by first | (simp; done) | (simp; omega) | omega) _) | (refine below_drewN ?_ _) | (refine Below.drew ?_)))); have hv0 := hv.below (w' := (w.alloc (.cells #[.int .i64 m, .slice o xs.length c] 42))) (by (repeat (first | exact Below.refl _ _ | (refine Below.setCell ?_ (by first | (simp; done) | (simp; omega) | omega) _) | (refine Below.alloc ?_ (by first | (simp; done) | (simp; omega) | omega) _) | (refine below_drewN ?_ _) | (refine Below.drew ?_)))) (Nat.le_refl _); generalize w.alloc (.cells #[.int .i64 m, .slice o xs.length c] 42) = w0 at X0 B0 hv0 ⊢)
    (obtain ⟨gqX0, gqX1⟩ := id X0; go_wp2_with fail; refine (IsPlane_c m _ xs _ hv0).mono ?_; rw [h1]; rintro e w1 ⟨rfl, hb⟩; (have X1 := X0.below hb (Nat.le_refl _); have hv1 := hv0.below hb (Nat.le_refl _); have B1 := B0.trans (hb.mono B0.size)); clear gqX0 gqX1; clear hb)
    have B1s := B1.size
    go_wp2_with fail
    have hd0 : Below w1.heap.size w1 w1.drew := (Below.refl _ _).drew
    have hsd0 := hd0.size
    obtain ⟨f0_a, f0_b⟩ := ((X1).below (Below.refl w1.heap.size w1) (Nat.le_refl _))
    refine wp_region_K (S := fun w' => w'.cell? ⟨w.heap.size, 0, none⟩ = some (.int .i64 m) ∧ w'.cell? ⟨w.heap.size, 1, none⟩ = some (.slice o xs.length c)) [] (by kernel_rfl) ?_
    have hHeld : (fun w' : World => w'.cell? ⟨w.heap.size, 0, none⟩ = some (.int .i64 m) ∧ w'.cell? ⟨w.heap.size, 1, none⟩ = some (.slice o xs.length c)) w1.drew := by go_keep
    refine' wpAnyK_takeL (i := 0) (v := _) rfl (by kernel_rfl) (by kernel_rfl) (by kernel_rfl) (by kernel_rfl) (fun _ _ _ h => h) (Or.inl ⟨by rfl, ?yT1⟩) hHeld ?rT1
    case yT1 => (intro w' hSw; (try dsimp only at hSw); go_simp; try with_reducible rfl)
    try simp only [List.getElem_toArray, List.getElem_cons_zero, List.getElem_cons_succ, Act.put, List.setIfInBounds_toArray, List.set_cons_zero, List.set_cons_succ]
    refine' wpAnyK_takeL (i := 1) (v := _) rfl (by kernel_rfl) (by kernel_rfl) (by kernel_rfl) (by kernel_rfl) (fun _ _ _ h => h) (Or.inl ⟨by rfl, ?yT2⟩) hHeld ?rT2
    case yT2 => (intro w' hSw; (try dsimp only at hSw); go_simp; try with_reducible rfl)
    try simp only [List.getElem_toArray, List.getElem_cons_zero, List.getElem_cons_succ, Act.put, List.setIfInBounds_toArray, List.set_cons_zero, List.set_cons_succ]
    refine wpAnyK_oneL (i := 2) rfl (by kernel_rfl) (fun K hK => ?_)
    go_simp
    go_at_call 155
    refine (turnedP_c m _ xs _ ((hv1).below (by (repeat (first | exact Below.refl _ _ | (refine Below.setCell ?_ (by first | (simp; done) | (simp; omega) | omega) _) | (refine Below.alloc ?_ (by first | (simp; done) | (simp; omega) | omega) _) | (refine below_drewN ?_ _) | (refine Below.drew ?_)))) (Nat.le_refl _)) (by omega) (by omega) (by omega) (by omega) HX.out).mono ?_
    rintro e wd1 ⟨vt1, rfl, hod1, hbd1⟩
    obtain ⟨ot, ct, rfl⟩ := hod1.shapeN (n := xs.length) (tri_len _ _)
    have hd1 : Below w1.heap.size w1 wd1 := (by (repeat (first | exact Below.refl _ _ | (refine Below.setCell ?_ (by first | (simp; done) | (simp; omega) | omega) _) | (refine Below.alloc ?_ (by first | (simp; done) | (simp; omega) | omega) _) | (refine below_drewN ?_ _) | (refine Below.drew ?_) | (refine Below.trans ?_ (Below.mono hbd1 (by first | (simp; done) | (simp; omega) | omega))))))
    have hsd1 := hd1.size
    have hsz1_ := hbd1.size
    (try simp at hsz1_)
    obtain ⟨f1_a, f1_b⟩ := ((X1).below hd1 (Nat.le_refl _))
    go_wp2_with fail
    clear hHeld
    have hHeld : (fun w' : World => w'.cell? ⟨w.heap.size, 0, none⟩ = some (.int .i64 m) ∧ w'.cell? ⟨w.heap.size, 1, none⟩ = some (.slice o xs.length c)) wd1 := by go_keep
    refine hK.out _ _ (fun _ => hHeld) ?_
    clear hK K
    try simp only [List.getElem_toArray, List.getElem_cons_zero, List.getElem_cons_succ, Act.put, List.setIfInBounds_toArray, List.set_cons_zero, List.set_cons_succ]
    refine wpAnyK_oneL (i := 3) rfl (by kernel_rfl) (fun K hK => ?_)
    go_simp
    go_at_call 166
    refine (sameP_c m m _ _ xs (turnT m xs) _ ((hv1).below (by (repeat (first | exact Below.refl _ _ | (refine Below.setCell ?_ (by first | (simp; done) | (simp; omega) | omega) _) | (refine Below.alloc ?_ (by first | (simp; done) | (simp; omega) | omega) _) | (refine below_drewN ?_ _) | (refine Below.drew ?_) | (refine Below.trans ?_ (Below.mono hbd1 (by first | (simp; done) | (simp; omega) | omega)))))) (Nat.le_refl _)) ((hod1.below (by (repeat (first | exact Below.refl _ _ | (refine Below.setCell ?_ (by first | (simp; done) | (simp; omega) | omega) _) | (refine Below.alloc ?_ (by first | (simp; done) | (simp; omega) | omega) _) | (refine below_drewN ?_ _) | (refine Below.drew ?_)))))).rd).mono ?_
    rintro e wd2 ⟨he, hbd2⟩
    rw [HE.out] at he; subst he
    have hd2 : Below w1.heap.size w1 wd2 := (by (repeat (first | exact Below.refl _ _ | (refine Below.setCell ?_ (by first | (simp; done) | (simp; omega) | omega) _) | (refine Below.alloc ?_ (by first | (simp; done) | (simp; omega) | omega) _) | (refine below_drewN ?_ _) | (refine Below.drew ?_) | (refine Below.trans ?_ (Below.mono hbd1 (by first | (simp; done) | (simp; omega) | omega))) | (refine Below.trans ?_ (Below.mono hbd2 (by first | (simp; done) | (simp; omega) | omega))))))
    have hsd2 := hd2.size
    have hsz2_ := hbd2.size
    (try simp at hsz2_)
    obtain ⟨f2_a, f2_b⟩ := ((X1).below hd2 (Nat.le_refl _))
    go_wp2_with fail
    clear hHeld
    have hHeld : (fun w' : World => w'.cell? ⟨w.heap.size, 0, none⟩ = some (.int .i64 m) ∧ w'.cell? ⟨w.heap.size, 1, none⟩ = some (.slice o xs.length c)) wd2 := by go_keep
    refine hK.out _ _ (fun _ => hHeld) ?_
    clear hK K
    try simp only [List.getElem_toArray, List.getElem_cons_zero, List.getElem_cons_succ, Act.put, List.setIfInBounds_toArray, List.set_cons_zero, List.set_cons_succ]
    refine wpAnyK_oneL (i := 4) rfl (by kernel_rfl) (fun K hK => ?_)
    go_simp
    (try go_wp2_with fail)
    refine hK.out _ _ (fun _ => hHeld) ?_
    clear hK K
    try simp only [List.getElem_toArray, List.getElem_cons_zero, List.getElem_cons_succ, Act.put, List.setIfInBounds_toArray, List.set_cons_zero, List.set_cons_succ]
    refine wpAnyK_oneL (i := 5) rfl (by kernel_rfl) (fun K hK => ?_)
    go_simp
    (try go_wp2_with fail)
    refine hK.out _ _ (fun _ => hHeld) ?_
    clear hK K
    try simp only [List.getElem_toArray, List.getElem_cons_zero, List.getElem_cons_succ, Act.put, List.setIfInBounds_toArray, List.set_cons_zero, List.set_cons_succ]
    refine wpAnyK_done (by kernel_rfl) ?_ _
    go_wp2
    exact bodyPost_ret (v := .tuple #[.bool (eqTB xs (turnT m xs)), .int .i64 0]) (by simp [results, Try.results56, go_sem]) rfl ⟨rfl, B1.trans (hd2.mono B1s)⟩
set_option maxHeartbeats 2000000 in
set_option maxRecDepth 100000 in
theorem sIsSymmetricPlane_c (m : Int) (v : Value) (xs : List (List Int)) (w : World) (hv : RdT w v xs) :
    Calls Try.prog 57 #[.agg #[.int .i64 m, v]] w fun e w' => BEnd2 w w' (symC m xs) e := by
  obtain ⟨o, c, rfl, -, -⟩ := id hv
  cases h1 : plaB m xs
  · have hR : symC m xs = (false, 1) := by simp [symC, h1]
    rw [hR]
    clear hR
    go_enter Try.func57, Try.ntmps57
    go_wp2_with fail
    (have X0 := ((RB2.mk1 w  (.int .i64 m) (.slice o xs.length c) 42).1).below (w' := (w.alloc (.cells #[.int .i64 m, .slice o xs.length c] 42))) (by (repeat (first | exact Below.refl _ _ | (refine Below.setCell ?_ (by first | (simp; done) | (simp; omega) | omega) _) | (refine Below.alloc ?_ (by first | (simp; done) | (simp; omega) | omega) _) | (refine below_drewN ?_ _) | (refine Below.drew ?_)))) (Nat.le_refl _); have B0 : Below w.heap.size w (w.alloc (.cells #[.int .i64 m, .slice o xs.length c] 42)) := (by (repeat (first | exact Below.refl _ _ | (refine Below.setCell ?_ (by first | (simp; done) | (simp; omega) | omega) _) | (refine Below.alloc ?_ (by first | (simp; done) | (simp; omega) | omega) _) | (refine below_drewN ?_ _) | (refine Below.drew ?_)))); have hv0 := hv.below (w' := (w.alloc (.cells #[.int .i64 m, .slice o xs.length c] 42))) (by (repeat (first | exact Below.refl _ _ | (refine Below.setCell ?_ (by first | (simp; done) | (simp; omega) | omega) _) | (refine Below.alloc ?_ (by first | (simp; done) | (simp; omega) | omega) _) | (refine below_drewN ?_ _) | (refine Below.drew ?_)))) (Nat.le_refl _); generalize w.alloc (.cells #[.int .i64 m, .slice o xs.length c] 42) = w0 at X0 B0 hv0 ⊢)
    (obtain ⟨gqX0, gqX1⟩ := id X0; go_wp2_with fail; refine (l03Is_c m _ xs _ hv0).mono ?_; rw [h1]; rintro e w1 ⟨rfl, hb⟩; (have X1 := X0.below hb (Nat.le_refl _); have hv1 := hv0.below hb (Nat.le_refl _); have B1 := B0.trans (hb.mono B0.size)); clear gqX0 gqX1; clear hb)
    go_wp2
    exact bodyPost_ret (v := .tuple #[.bool false, .int .i64 1]) (by simp [results, Try.results57, go_sem]) rfl ⟨rfl, B1⟩
  · have hn := pla_n h1
    have hm := pla_m h1
    have hx := pla_row h1
    have HX := Lib.hid hx
    have hR : symC m xs = (eqTB xs (turnT m xs), 0) := by simp [symC, h1]
    rw [hR]
    clear hR hx
    go_enter Try.func57, Try.ntmps57
    go_wp2_with fail
    (have X0 := ((RB2.mk1 w  (.int .i64 m) (.slice o xs.length c) 42).1).below (w' := (w.alloc (.cells #[.int .i64 m, .slice o xs.length c] 42))) (by (repeat (first | exact Below.refl _ _ | (refine Below.setCell ?_ (by first | (simp; done) | (simp; omega) | omega) _) | (refine Below.alloc ?_ (by first | (simp; done) | (simp; omega) | omega) _) | (refine below_drewN ?_ _) | (refine Below.drew ?_)))) (Nat.le_refl _); have B0 : Below w.heap.size w (w.alloc (.cells #[.int .i64 m, .slice o xs.length c] 42)) := (by (repeat (first | exact Below.refl _ _ | (refine Below.setCell ?_ (by first | (simp; done) | (simp; omega) | omega) _) | (refine Below.alloc ?_ (by first | (simp; done) | (simp; omega) | omega) _) | (refine below_drewN ?_ _) | (refine Below.drew ?_)))); have hv0 := hv.below (w' := (w.alloc (.cells #[.int .i64 m, .slice o xs.length c] 42))) (by (repeat (first | exact Below.refl _ _ | (refine Below.setCell ?_ (by first | (simp; done) | (simp; omega) | omega) _) | (refine Below.alloc ?_ (by first | (simp; done) | (simp; omega) | omega) _) | (refine below_drewN ?_ _) | (refine Below.drew ?_)))) (Nat.le_refl _); generalize w.alloc (.cells #[.int .i64 m, .slice o xs.length c] 42) = w0 at X0 B0 hv0 ⊢)
    (obtain ⟨gqX0, gqX1⟩ := id X0; go_wp2_with fail; refine (l03Is_c m _ xs _ hv0).mono ?_; rw [h1]; rintro e w1 ⟨rfl, hb⟩; (have X1 := X0.below hb (Nat.le_refl _); have hv1 := hv0.below hb (Nat.le_refl _); have B1 := B0.trans (hb.mono B0.size)); clear gqX0 gqX1; clear hb)
    have B1s := B1.size
    go_wp2_with fail
    have hd0 : Below w1.heap.size w1 w1.drew := (Below.refl _ _).drew
    have hsd0 := hd0.size
    obtain ⟨f0_a, f0_b⟩ := ((X1).below (Below.refl w1.heap.size w1) (Nat.le_refl _))
    refine wp_region_K (S := fun w' => w'.cell? ⟨w.heap.size, 0, none⟩ = some (.int .i64 m) ∧ w'.cell? ⟨w.heap.size, 1, none⟩ = some (.slice o xs.length c)) [] (by kernel_rfl) ?_
    have hHeld : (fun w' : World => w'.cell? ⟨w.heap.size, 0, none⟩ = some (.int .i64 m) ∧ w'.cell? ⟨w.heap.size, 1, none⟩ = some (.slice o xs.length c)) w1.drew := by go_keep
    refine' wpAnyK_takeL (i := 0) (v := _) rfl (by kernel_rfl) (by kernel_rfl) (by kernel_rfl) (by kernel_rfl) (fun _ _ _ h => h) (Or.inl ⟨by rfl, ?yT3⟩) hHeld ?rT3
    case yT3 => (intro w' hSw; (try dsimp only at hSw); go_simp; try with_reducible rfl)
    try simp only [List.getElem_toArray, List.getElem_cons_zero, List.getElem_cons_succ, Act.put, List.setIfInBounds_toArray, List.set_cons_zero, List.set_cons_succ]
    refine' wpAnyK_takeL (i := 1) (v := _) rfl (by kernel_rfl) (by kernel_rfl) (by kernel_rfl) (by kernel_rfl) (fun _ _ _ h => h) (Or.inl ⟨by rfl, ?yT4⟩) hHeld ?rT4
    case yT4 => (intro w' hSw; (try dsimp only at hSw); go_simp; try with_reducible rfl)
    try simp only [List.getElem_toArray, List.getElem_cons_zero, List.getElem_cons_succ, Act.put, List.setIfInBounds_toArray, List.set_cons_zero, List.set_cons_succ]
    refine' wpAnyK_takeL (i := 2) (v := _) rfl (by kernel_rfl) (by kernel_rfl) (by kernel_rfl) (by kernel_rfl) (fun _ _ _ h => h) (Or.inl ⟨by rfl, ?yT5⟩) hHeld ?rT5
    case yT5 => (intro w' hSw; (try dsimp only at hSw); go_simp; try with_reducible rfl)
    try simp only [List.getElem_toArray, List.getElem_cons_zero, List.getElem_cons_succ, Act.put, List.setIfInBounds_toArray, List.set_cons_zero, List.set_cons_succ]
    refine' wpAnyK_takeL (i := 3) (v := _) rfl (by kernel_rfl) (by kernel_rfl) (by kernel_rfl) (by kernel_rfl) (fun _ _ _ h => h) (Or.inl ⟨by rfl, ?yT6⟩) hHeld ?rT6
    case yT6 => (intro w' hSw; (try dsimp only at hSw); go_simp; try with_reducible rfl)
    try simp only [List.getElem_toArray, List.getElem_cons_zero, List.getElem_cons_succ, Act.put, List.setIfInBounds_toArray, List.set_cons_zero, List.set_cons_succ]
    refine wpAnyK_oneL (i := 4) rfl (by kernel_rfl) (fun K hK => ?_)
    go_simp
    go_at_call 165
    refine (l03Turn_c m xs.length _ xs _ ((hv1).below (by (repeat (first | exact Below.refl _ _ | (refine Below.setCell ?_ (by first | (simp; done) | (simp; omega) | omega) _) | (refine Below.alloc ?_ (by first | (simp; done) | (simp; omega) | omega) _) | (refine below_drewN ?_ _) | (refine Below.drew ?_)))) (Nat.le_refl _)) (by omega) (by omega) ⟨rfl, HX.out⟩).mono ?_
    rintro e wd1 ⟨vt1, rfl, hod1, hbd1⟩
    obtain ⟨ot, ct, rfl⟩ := hod1.shapeN (n := xs.length) (tri_len _ _)
    have hd1 : Below w1.heap.size w1 wd1 := (by (repeat (first | exact Below.refl _ _ | (refine Below.setCell ?_ (by first | (simp; done) | (simp; omega) | omega) _) | (refine Below.alloc ?_ (by first | (simp; done) | (simp; omega) | omega) _) | (refine below_drewN ?_ _) | (refine Below.drew ?_) | (refine Below.trans ?_ (Below.mono hbd1 (by first | (simp; done) | (simp; omega) | omega))))))
    have hsd1 := hd1.size
    have hsz1_ := hbd1.size
    (try simp at hsz1_)
    obtain ⟨f1_a, f1_b⟩ := ((X1).below hd1 (Nat.le_refl _))
    go_wp2_with fail
    clear hHeld
    have hHeld : (fun w' : World => w'.cell? ⟨w.heap.size, 0, none⟩ = some (.int .i64 m) ∧ w'.cell? ⟨w.heap.size, 1, none⟩ = some (.slice o xs.length c)) wd1 := by go_keep
    refine hK.out _ _ (fun _ => hHeld) ?_
    clear hK K
    try simp only [List.getElem_toArray, List.getElem_cons_zero, List.getElem_cons_succ, Act.put, List.setIfInBounds_toArray, List.set_cons_zero, List.set_cons_succ]
    refine wpAnyK_oneL (i := 5) rfl (by kernel_rfl) (fun K hK => ?_)
    go_simp
    go_at_call 167
    refine (l01Same2_c _ _ xs (turnT m xs) _ ((hv1).below (by (repeat (first | exact Below.refl _ _ | (refine Below.setCell ?_ (by first | (simp; done) | (simp; omega) | omega) _) | (refine Below.alloc ?_ (by first | (simp; done) | (simp; omega) | omega) _) | (refine below_drewN ?_ _) | (refine Below.drew ?_) | (refine Below.trans ?_ (Below.mono hbd1 (by first | (simp; done) | (simp; omega) | omega)))))) (Nat.le_refl _)) ((hod1.below (by (repeat (first | exact Below.refl _ _ | (refine Below.setCell ?_ (by first | (simp; done) | (simp; omega) | omega) _) | (refine Below.alloc ?_ (by first | (simp; done) | (simp; omega) | omega) _) | (refine below_drewN ?_ _) | (refine Below.drew ?_)))))).rd).mono ?_
    rintro e wd2 ⟨rfl, hbe⟩
    have hbd2 : Below wd1.heap.size wd1 wd2 := (by obtain ⟨q, rfl⟩ := hbe; exact below_drewN (Below.refl _ _) _); clear hbe
    have hd2 : Below w1.heap.size w1 wd2 := (by (repeat (first | exact Below.refl _ _ | (refine Below.setCell ?_ (by first | (simp; done) | (simp; omega) | omega) _) | (refine Below.alloc ?_ (by first | (simp; done) | (simp; omega) | omega) _) | (refine below_drewN ?_ _) | (refine Below.drew ?_) | (refine Below.trans ?_ (Below.mono hbd1 (by first | (simp; done) | (simp; omega) | omega))) | (refine Below.trans ?_ (Below.mono hbd2 (by first | (simp; done) | (simp; omega) | omega))))))
    have hsd2 := hd2.size
    have hsz2_ := hbd2.size
    (try simp at hsz2_)
    obtain ⟨f2_a, f2_b⟩ := ((X1).below hd2 (Nat.le_refl _))
    go_wp2_with fail
    clear hHeld
    have hHeld : (fun w' : World => w'.cell? ⟨w.heap.size, 0, none⟩ = some (.int .i64 m) ∧ w'.cell? ⟨w.heap.size, 1, none⟩ = some (.slice o xs.length c)) wd2 := by go_keep
    refine hK.out _ _ (fun _ => hHeld) ?_
    clear hK K
    try simp only [List.getElem_toArray, List.getElem_cons_zero, List.getElem_cons_succ, Act.put, List.setIfInBounds_toArray, List.set_cons_zero, List.set_cons_succ]
    refine wpAnyK_oneL (i := 6) rfl (by kernel_rfl) (fun K hK => ?_)
    go_simp
    (try go_wp2_with fail)
    refine hK.out _ _ (fun _ => hHeld) ?_
    clear hK K
    try simp only [List.getElem_toArray, List.getElem_cons_zero, List.getElem_cons_succ, Act.put, List.setIfInBounds_toArray, List.set_cons_zero, List.set_cons_succ]
    refine wpAnyK_oneL (i := 7) rfl (by kernel_rfl) (fun K hK => ?_)
    go_simp
    (try go_wp2_with fail)
    refine hK.out _ _ (fun _ => hHeld) ?_
    clear hK K
    try simp only [List.getElem_toArray, List.getElem_cons_zero, List.getElem_cons_succ, Act.put, List.setIfInBounds_toArray, List.set_cons_zero, List.set_cons_succ]
    refine wpAnyK_done (by kernel_rfl) ?_ _
    go_wp2
    exact bodyPost_ret (v := .tuple #[.bool (eqTB xs (turnT m xs)), .int .i64 0]) (by simp [results, Try.results57, go_sem]) rfl ⟨rfl, B1.trans (hd2.mono B1s)⟩
end Go.Proofs.Ytcjinlfgeljmkaa
