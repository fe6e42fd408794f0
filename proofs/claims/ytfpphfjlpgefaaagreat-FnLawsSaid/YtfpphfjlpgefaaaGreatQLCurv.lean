/- Lemmas. -/
import Derived.Test.YtfpphfjlpgefaaaGreatQLM13
import Derived.Test.YtfpphfjlpgefaaaGreatQLG5
set_option maxHeartbeats 1000000
set_option maxRecDepth 100000
set_option linter.unusedSimpArgs false
set_option linter.unusedVariables false
namespace Go.Proofs.YtfpphfjlpgefaaaGreat
open Go.RowKit

theorem RdM.lit2c (w : World) {b : Nat} (hb : w.heap.size = b) (m m' : Int) (u u' : Value) (xs ys : List Int) (hu : RdI w u xs) (hu' : RdI w u' ys) : RdM (w.alloc (.cells #[.int .i64 m, u, .int .i64 m', u'] 34)) (.slice (some ⟨b, 0, none⟩) 2 2) [(m, xs), (m', ys)] := by
 subst hb; exact RdM.lit2 w m m' u u' xs ys hu hu'

def curOfB (m : Int) (n : Nat) (p : Int × List Int) : Bool := fitB m n p && (at0 p.2 0 == 0)
def curC (m : Int) (t : List (List Int)) (l : List (Int × List Int)) : Int :=
 if lawB m t then (if l.all (fun p => serB p.1 p.2) then (if l.all (curOfB m t.length) then 0 else 2) else 1) else 1
theorem curC_0 {m : Int} {t : List (List Int)} {l : List (Int × List Int)} (h : curC m t l = 0) : lawB m t = true ∧ ∀ p ∈ l, serB p.1 p.2 = true ∧ p.1 = m ∧ p.2.length = t.length ∧ at0 p.2 0 = 0 := by
 unfold curC at h
 split at h
 ·rename_i h1
  split at h
  ·rename_i h2
   split at h
   ·rename_i h3
    refine ⟨h1, fun p hp => ⟨List.all_eq_true.1 h2 p hp, ?_⟩⟩
    have := List.all_eq_true.1 h3 p hp
    simp only [curOfB, fitB, Bool.and_eq_true, beq_iff_eq] at this
    omega
   ·cases h
  ·cases h
 ·cases h
theorem IsSeries_callable : Callable 62 := fun args w => Tryz.call62 args w

theorem isCurveOf_c (m n : Int) (v u : Value) (xs : List (List Int)) (ys : List Int) (w : World) (hv : RdT w v xs) (hu : RdI w u ys) (h1 : 1 ≤ ys.length) :
  Calls Tryz.prog 86 #[.agg #[.int .i64 m, v], .agg #[.int .i64 n, u]] w fun e w' => e = .returned (.bool (curOfB m xs.length (n, ys))) ∧ Below w.heap.size w w' := by
 obtain ⟨o, c, rfl, -, -⟩ := id hv
 obtain ⟨o', c', rfl, -, -⟩ := id hu
 cases hf : fitB m xs.length (n, ys)
 all_goals
  have HC := Lib.hid (show curOfB m xs.length (n, ys) = (_ && (at0 ys 0 == 0)) by unfold curOfB; rw [hf])
  go_enter Tryz.func86, Tryz.ntmps86
  go_wp2_with fail
  (have X0 := ((RB2.mk1 w  (.int .i64 m) (.slice o xs.length c) 26).1).below (w' := ((w.alloc (.cells #[.int .i64 m, .slice o xs.length c] 26)).alloc (.cells #[.int .i64 n, .slice o' ys.length c'] 34))) bZ (nl _); have Y0 := ((RB2.mk2 w (.cells #[.int .i64 m, .slice o xs.length c] 26) (.int .i64 n) (.slice o' ys.length c') 34).1).below (w' := ((w.alloc (.cells #[.int .i64 m, .slice o xs.length c] 26)).alloc (.cells #[.int .i64 n, .slice o' ys.length c'] 34))) bZ (nl _); have B0 : Below w.heap.size w ((w.alloc (.cells #[.int .i64 m, .slice o xs.length c] 26)).alloc (.cells #[.int .i64 n, .slice o' ys.length c'] 34)) := bZ; have hv0 := hv.below (w' := ((w.alloc (.cells #[.int .i64 m, .slice o xs.length c] 26)).alloc (.cells #[.int .i64 n, .slice o' ys.length c'] 34))) bZ (nl _); have hu0 := hu.below (w' := ((w.alloc (.cells #[.int .i64 m, .slice o xs.length c] 26)).alloc (.cells #[.int .i64 n, .slice o' ys.length c'] 34))) bZ (nl _); generalize (w.alloc (.cells #[.int .i64 m, .slice o xs.length c] 26)).alloc (.cells #[.int .i64 n, .slice o' ys.length c'] 34) = w0 at X0 Y0 B0 hv0 hu0 ⊢)
  obtain ⟨x0, x1⟩ := id X0
  obtain ⟨y0, y1⟩ := id Y0
  go_wp2_with fail
  refine (fits_c m n _ _ xs ys _ hv0 hu0).mono ?_
  rw [hf]
  rintro e w1 ⟨rfl, hb⟩
  clear x0 x1 y0 y1
  (have X1 := X0.below hb (nl _); have Y1 := Y0.below hb (nl _); have hu1 := hu0.below hb (nl _); have B1 := B0.trans (hb.mono B0.size))
  obtain ⟨y0, y1⟩ := id Y1
  obtain ⟨bx, fx, rfl, hcx⟩ := hu1.cells h1
  have hc0 := hcx 0 _ (some_at0 (by omega))
  have i2 : (0 : Int) < (ys.length : Int) := by omega
  rw [Nat.add_zero] at hc0
  clear hcx
  go_wp2
  go_ret
  exact ⟨by rw [HC.out]; rfl, B1⟩
theorem isCurveOf_callable : Callable 86 := fun args w => Tryz.call86 args w

theorem curved_c (m : Int) (v u : Value) (t : List (List Int)) (l : List (Int × List Int)) (w : World) (hv : RdT w v t) (hu : RdM w u l) :
  Calls Tryz.prog 44 #[.agg #[.int .i64 m, v], u] w fun e w' => e = .returned (.int .i64 (curC m t l)) ∧ Below w.heap.size w w' := by
 obtain ⟨o, c, rfl, -, -⟩ := id hv
 obtain ⟨o', c', rfl, -, -⟩ := id hu
 cases h1 : lawB m t
 ·have hR : curC m t l = 1 := by simp [curC, h1]
  rw [hR]
  go_enter Tryz.func44, Tryz.ntmps44
  go_wp2_with fail
  (have X0 := ((RB2.mk1 w  (.int .i64 m) (.slice o t.length c) 26).1).below (w' := (w.alloc (.cells #[.int .i64 m, .slice o t.length c] 26))) bZ (nl _); have B0 : Below w.heap.size w (w.alloc (.cells #[.int .i64 m, .slice o t.length c] 26)) := bZ; have hv0 := hv.below (w' := (w.alloc (.cells #[.int .i64 m, .slice o t.length c] 26))) bZ (nl _); generalize w.alloc (.cells #[.int .i64 m, .slice o t.length c] 26) = w0 at X0 B0 hv0 ⊢)
  obtain ⟨x0, x1⟩ := id X0
  go_wp2_with fail
  refine (IsLaw_c m _ t _ hv0).mono ?_
  rw [h1]
  rintro e w1 ⟨rfl, hb⟩
  (have X1 := X0.below hb (nl _); have B1 := B0.trans (hb.mono B0.size))
  clear x0 x1
  go_wp2
  go_ret
  exact ⟨rfl, B1⟩
 ·cases h2 : l.all (fun p => serB p.1 p.2)
  ·have hR : curC m t l = 1 := by simp [curC, h1, h2]
   rw [hR]
   go_enter Tryz.func44, Tryz.ntmps44
   go_wp2_with fail
   (have X0 := ((RB2.mk1 w  (.int .i64 m) (.slice o t.length c) 26).1).below (w' := (w.alloc (.cells #[.int .i64 m, .slice o t.length c] 26))) bZ (nl _); have B0 : Below w.heap.size w (w.alloc (.cells #[.int .i64 m, .slice o t.length c] 26)) := bZ; have hv0 := hv.below (w' := (w.alloc (.cells #[.int .i64 m, .slice o t.length c] 26))) bZ (nl _); have hu0 := hu.below (w' := (w.alloc (.cells #[.int .i64 m, .slice o t.length c] 26))) bZ (nl _); generalize w.alloc (.cells #[.int .i64 m, .slice o t.length c] 26) = w0 at X0 B0 hv0 hu0 ⊢)
   obtain ⟨x0, x1⟩ := id X0
   go_wp2_with fail
   refine (IsLaw_c m _ t _ hv0).mono ?_
   rw [h1]
   rintro e w1 ⟨rfl, hb⟩
   (have X1 := X0.below hb (nl _); have hu1 := hu0.below hb (nl _); have B1 := B0.trans (hb.mono B0.size))
   clear x0 x1
   go_wp2_with fail
   refine (allSA_c 62 0 (fun p => serB p.1 p.2) _ l _ hu1 IsSeries_callable (fun z xs u w1 _ _ hu => IsSeries_c z u xs w1 hu)).mono ?_
   rw [h2]
   rintro e w2 ⟨rfl, hb⟩
   (have X2 := X1.below hb (nl _); have B2 := B1.trans (hb.mono B1.size))
   go_wp2
   go_ret
   exact ⟨rfl, B2⟩
  ·cases h3 : l.all (curOfB m t.length)
   all_goals
    have HR := Lib.hid (show curC m t l = _ by simp only [curC, h1, h2, h3]; rfl)
    have HL := Lib.hid (show ∀ z xs, (z, xs) ∈ l → 1 ≤ xs.length from fun z xs hz => by
     have h : 2 ≤ xs.length ∧ xs.length ≤ 11 := ser_n (List.all_eq_true.1 h2 (z, xs) hz)
     omega)
    go_enter Tryz.func44, Tryz.ntmps44
    go_wp2_with fail
    (have X0 := ((RB2.mk1 w  (.int .i64 m) (.slice o t.length c) 26).1).below (w' := (w.alloc (.cells #[.int .i64 m, .slice o t.length c] 26))) bZ (nl _); have B0 : Below w.heap.size w (w.alloc (.cells #[.int .i64 m, .slice o t.length c] 26)) := bZ; have hv0 := hv.below (w' := (w.alloc (.cells #[.int .i64 m, .slice o t.length c] 26))) bZ (nl _); have hu0 := hu.below (w' := (w.alloc (.cells #[.int .i64 m, .slice o t.length c] 26))) bZ (nl _); generalize w.alloc (.cells #[.int .i64 m, .slice o t.length c] 26) = w0 at X0 B0 hv0 hu0 ⊢)
    obtain ⟨x0, x1⟩ := id X0
    go_wp2_with fail
    refine (IsLaw_c m _ t _ hv0).mono ?_
    rw [h1]
    rintro e w1 ⟨rfl, hb⟩
    (have X1 := X0.below hb (nl _); have hv1 := hv0.below hb (nl _); have hu1 := hu0.below hb (nl _); have B1 := B0.trans (hb.mono B0.size))
    clear x0 x1
    go_wp2_with fail
    refine (allSA_c 62 0 (fun p => serB p.1 p.2) _ l _ hu1 IsSeries_callable (fun z xs u w1 _ _ hu => IsSeries_c z u xs w1 hu)).mono ?_
    rw [h2]
    rintro e w2 ⟨rfl, hb⟩
    (have X2 := X1.below hb (nl _); have hv2 := hv1.below hb (nl _); have hu2 := hu1.below hb (nl _); have B2 := B1.trans (hb.mono B1.size))
    obtain ⟨x0, x1⟩ := id X2
    go_wp2_with fail
    refine (allSB_c 86 _ (curOfB m t.length) _ l _ hu2 isCurveOf_callable (fun z xs u w1 hz hb hu => isCurveOf_c m z _ u t xs w1 (hv2.below hb (nl _)) hu (HL.out z xs hz))).mono ?_
    rw [h3]
    rintro e w3 ⟨rfl, hb⟩
    (have X3 := X2.below hb (nl _); have B3 := B2.trans (hb.mono B2.size))
    clear x0 x1
    go_wp2
    go_ret
    exact ⟨by rw [HR.out]; rfl, B3⟩

theorem l04Code_c (m : Int) (v u : Value) (xss : List (List Int)) (l : List (Int × List Int)) (w : World) (hv : RdT w v xss) (hu : RdM w u l) :
  Calls Tryz.prog 46 #[.agg #[.int .i64 m, v], u] w fun e w' => e = .returned (.int .i64 (curC m xss l)) ∧ Below w.heap.size w w' := by
 obtain ⟨o, c, rfl, hmx, -⟩ := id hv
 obtain ⟨o', c', rfl, hmy, -⟩ := id hu
 unfold maxLen at hmx hmy
 cases h1 : lawB m xss
 ·have hR : curC m xss l = 1 := by simp [curC, h1]
  rw [hR]
  go_enter Tryz.func46, Tryz.ntmps46
  go_wp2_with fail
  (have X0 := ((RB2.mk1 w  (.int .i64 m) (.slice o xss.length c) 26).1).below (w' := (w.alloc (.cells #[.int .i64 m, .slice o xss.length c] 26))) bZ (nl _); have B0 : Below w.heap.size w (w.alloc (.cells #[.int .i64 m, .slice o xss.length c] 26)) := bZ; have hv0 := hv.below (w' := (w.alloc (.cells #[.int .i64 m, .slice o xss.length c] 26))) bZ (nl _); generalize w.alloc (.cells #[.int .i64 m, .slice o xss.length c] 26) = w0 at X0 B0 hv0 ⊢)
  obtain ⟨x0, x1⟩ := id X0
  go_wp2_with fail
  refine (l04Is_c m _ xss _ hv0).mono ?_
  rw [h1]
  rintro e w1 ⟨rfl, hb⟩
  (have X1 := X0.below hb (nl _); have B1 := B0.trans (hb.mono B0.size))
  go_wp2
  go_ret
  exact ⟨rfl, B1⟩
 ·go_enter Tryz.func46, Tryz.ntmps46
  go_wp2_with fail
  (have X0 := ((RB2.mk1 w  (.int .i64 m) (.slice o xss.length c) 26).1).below (w' := (w.alloc (.cells #[.int .i64 m, .slice o xss.length c] 26))) bZ (nl _); have B0 : Below w.heap.size w (w.alloc (.cells #[.int .i64 m, .slice o xss.length c] 26)) := bZ; have hv0 := hv.below (w' := (w.alloc (.cells #[.int .i64 m, .slice o xss.length c] 26))) bZ (nl _); have hu0 := hu.below (w' := (w.alloc (.cells #[.int .i64 m, .slice o xss.length c] 26))) bZ (nl _); generalize w.alloc (.cells #[.int .i64 m, .slice o xss.length c] 26) = w0 at X0 B0 hv0 hu0 ⊢)
  obtain ⟨x0, x1⟩ := id X0
  go_wp2_with fail
  refine (l04Is_c m _ xss _ hv0).mono ?_
  rw [h1]
  rintro e w1 ⟨rfl, hb⟩
  (have X1 := X0.below hb (nl _); have hu1 := hu0.below hb (nl _); have B1 := B0.trans (hb.mono B0.size))
  clear x0 x1
  have B1s := B1.size
  go_wp2_with fail
  go_loopw [5] (fun i wr => ∃ k : Nat, k ≤ l.length ∧ i = .int .i64 k ∧ Hid (∀ j (hj : j < l.length), j < k → serB l[j].1 l[j].2 = true) ∧ Below w1.heap.size w1 wr) (fun i _ => l.length - (intOf i).toNat)
  case atStart => exact ⟨0, Nat.zero_le _, rfl, Lib.hid (fun j hj h => by omega), Below.refl _ _⟩
  case round =>
   obtain ⟨k, hk, rfl, HQ, hbr⟩ := hrel
   have hur := hu1.below hbr (nl _)
   by_cases hlt : k < l.length
   ·obtain ⟨b, off, rfl⟩ := hur.base (by omega)
    obtain ⟨o2, c2, y0, y1, hr⟩ := hur.at hlt
    have i0 : (0 : Int) ≤ (k : Int) := by omega
    have i1 : (k : Int) < (l.length : Int) := by omega
    cases hs : serB l[k].1 l[k].2
    ·have hR : curC m xss l = 1 := by
      have : l.all (fun p => serB p.1 p.2) = false := List.all_eq_false.2 ⟨l[k], List.getElem_mem _, by simp [hs]⟩
      simp [curC, h1, this]
     have HR := Lib.hid hR
     clear hR
     go_wp2_with fail
     refine (l02Is_c _ _ _ _ hr).mono ?_
     rw [hs]
     rintro e w2 ⟨rfl, hb2⟩
     clear y0 y1
     go_wp2
     go_ret
     exact ⟨by rw [HR.out]; rfl, B1.trans ((hbr.trans (hb2.mono hbr.size)).mono B1s)⟩
    ·go_wp2_with fail
     refine (l02Is_c _ _ _ _ hr).mono ?_
     rw [hs]
     rintro e w2 ⟨rfl, hb2⟩
     clear y0 y1
     go_wp2
     exact ⟨⟨k + 1, by omega, by go_num, Lib.hid (fun j hj h => by
      rcases Nat.lt_or_ge j k with h1 | h1
      ·exact HQ.out j hj h1
      ·obtain rfl : j = k := by omega
       exact hs), hbr.trans (hb2.mono hbr.size)⟩, by simp [intOf]; omega⟩
   ·have hsat : ∀ j (hj : j < l.length), serB l[j].1 l[j].2 = true := fun j hj => HQ.out j hj (by omega)
    have hall : l.all (fun p => serB p.1 p.2) = true := by
     rw [List.all_eq_true]
     intro p hp
     obtain ⟨j, hj, rfl⟩ := List.getElem_of_mem hp
     exact hsat j hj
    have HALL := Lib.hid hall
    have HSAT := Lib.hid hsat
    clear hall hsat HQ
    have B2 := B1.trans (hbr.mono B1s)
    have X2 := X1.below hbr (nl _)
    clear hk
    go_wp2_with fail
    go_loopw [6] (fun i w2 => ∃ k : Nat, k ≤ l.length ∧ i = .int .i64 k ∧ Hid (∀ j (hj : j < l.length), j < k → curOfB m xss.length l[j] = true) ∧ Below wr.heap.size wr w2) (fun i _ => l.length - (intOf i).toNat)
    case atStart => exact ⟨0, Nat.zero_le _, rfl, Lib.hid (fun j hj h => by omega), Below.refl _ _⟩
    case round =>
     rename_i w2
     obtain ⟨k, hk, rfl, HQ, hbz⟩ := hrel
     have X3 := X2.below hbz (nl _)
     have huz := hur.below hbz (nl _)
     have lX := X3.lt
     have B3 := B2.trans (hbz.mono B2.size)
     obtain ⟨x0, x1⟩ := id X3
     by_cases hlt : k < l.length
     ·obtain ⟨b, off, rfl⟩ := huz.base (by omega)
      obtain ⟨o2, c2, y0, y1, hr⟩ := huz.at hlt
      have hrl := hr.len.2.1
      unfold maxLen at hrl
      have hsk := HSAT.out k hlt
      have i0 : (0 : Int) ≤ (k : Int) := by omega
      have i1 : (k : Int) < (l.length : Int) := by omega
      have hcu : curB l[k].1 l[k].2 = (at0 l[k].2 0 == 0) := by simp [curB, hsk]
      have HCU := Lib.hid hcu
      clear hcu hsk
      cases hz : (at0 l[k].2 0 == 0)
      ·have HF := Lib.hid (show curOfB m xss.length l[k] = false by simp [curOfB, hz])
       have hR : curC m xss l = 2 := by
        have : l.all (curOfB m xss.length) = false := List.all_eq_false.2 ⟨l[k], List.getElem_mem _, by simp [HF.out]⟩
        simp only [curC, h1, HALL.out, this]; rfl
       have HR := Lib.hid hR
       clear hR
       go_wp2_with fail
       have hd0 : Below wr.heap.size wr wr.drew := (Below.refl _ _).drew
       have hsd0 := hd0.size
       have f0_a := keep_cell hd0 (nl _) y0
       have f0_b := keep_cell hd0 (nl _) y1
       refine wp_region_K (S := fun w' => w'.cell? ⟨b, off + k * 2, none⟩ = some (.int .i64 l[k].1) ∧ w'.cell? ⟨b, off + k * 2 + 1, none⟩ = some (.slice o2 l[k].2.length c2)) [] (by kernel_rfl) ?_
       have hHeld : (fun w' : World => w'.cell? ⟨b, off + k * 2, none⟩ = some (.int .i64 l[k].1) ∧ w'.cell? ⟨b, off + k * 2 + 1, none⟩ = some (.slice o2 l[k].2.length c2)) wr.drew := by go_keep
       refine' wpAnyK_takeL (i := 0) (v := _) rfl (by kernel_rfl) (by kernel_rfl) (by kernel_rfl) (by kernel_rfl) (fun _ _ _ h => h) (Or.inl ⟨by rfl, ?yT1⟩) hHeld ?rT1
       case yT1 => (intro w' hSw; (try dsimp only at hSw); go_simp; try with_reducible rfl)
       try simp only [Act.put, sL]
       refine' wpAnyK_takeL (i := 1) (v := _) rfl (by kernel_rfl) (by kernel_rfl) (by kernel_rfl) (by kernel_rfl) (fun _ _ _ h => h) (Or.inl ⟨by rfl, ?yT2⟩) hHeld ?rT2
       case yT2 => (intro w' hSw; (try dsimp only at hSw); go_simp; try with_reducible rfl)
       try simp only [Act.put, sL]
       refine' wpAnyK_takeL (i := 2) (v := _) rfl (by kernel_rfl) (by kernel_rfl) (by kernel_rfl) (by kernel_rfl) (fun _ _ _ h => h) (Or.inl ⟨by rfl, ?yT3⟩) hHeld ?rT3
       case yT3 => (intro w' hSw; (try dsimp only at hSw); go_simp; try with_reducible rfl)
       try simp only [Act.put, sL]
       refine' wpAnyK_takeL (i := 3) (v := _) rfl (by kernel_rfl) (by kernel_rfl) (by kernel_rfl) (by kernel_rfl) (fun _ _ _ h => h) (Or.inl ⟨by rfl, ?yT4⟩) hHeld ?rT4
       case yT4 => (intro w' hSw; (try dsimp only at hSw); go_simp; try with_reducible rfl)
       try simp only [Act.put, sL]
       refine wpAnyK_oneL (i := 4) rfl (by kernel_rfl) (fun K hK => ?_)
       go_simp
       go_at_call 93
       refine (l02Curve_c _ _ _ _ ((hr).below bZ (nl _))).mono ?_
       rintro e wd1 ⟨he, hbd1⟩
       rw [HCU.out, hz] at he; subst he
       have hd1 : Below wr.heap.size wr wd1 := (by (repeat (first | exact bR _ _ | (refine bS ?_ _) | (refine bA ?_ _) | (refine bN ?_ _) | (refine bD ?_) | (refine bT ?_ hbd1))))
       have hsd1 := hd1.size
       have hsz1_ := hbd1.size
       (try simp at hsz1_)
       have f1_a := keep_cell hd1 (nl _) y0
       have f1_b := keep_cell hd1 (nl _) y1
       go_wp2_with fail
       clear hHeld
       have hHeld : (fun w' : World => w'.cell? ⟨b, off + k * 2, none⟩ = some (.int .i64 l[k].1) ∧ w'.cell? ⟨b, off + k * 2 + 1, none⟩ = some (.slice o2 l[k].2.length c2)) wd1 := by go_keep
       refine hK.out _ _ (fun _ => hHeld) ?_
       clear hK K
       try simp only [Act.put, sL]
       refine' wpAnyK_takeL (i := 5) (v := _) rfl (by kernel_rfl) (by kernel_rfl) (by kernel_rfl) (by kernel_rfl) (fun _ _ _ h => h) (Or.inl ⟨by rfl, ?yT5⟩) hHeld ?rT5
       case yT5 => (intro w' hSw; (try dsimp only at hSw); go_simp; try with_reducible rfl)
       try simp only [Act.put, sL]
       refine' wpAnyK_takeL (i := 6) (v := _) rfl (by kernel_rfl) (by kernel_rfl) (by kernel_rfl) (by kernel_rfl) (fun _ _ _ h => h) (Or.inl ⟨by rfl, ?yT6⟩) hHeld ?rT6
       case yT6 => (intro w' hSw; (try dsimp only at hSw); go_simp; try with_reducible rfl)
       try simp only [Act.put, sL]
       refine' wpAnyK_takeL (i := 7) (v := undef) rfl (by kernel_rfl) (by kernel_rfl) (by kernel_rfl) (by kernel_rfl) (fun _ _ _ h => h) (Or.inr ⟨by rfl, rfl⟩) hHeld ?rT7
       try simp only [Act.put, sL]
       refine' wpAnyK_takeL (i := 8) (v := undef) rfl (by kernel_rfl) (by kernel_rfl) (by kernel_rfl) (by kernel_rfl) (fun _ _ _ h => h) (Or.inr ⟨by rfl, rfl⟩) hHeld ?rT8
       try simp only [Act.put, sL]
       refine' wpAnyK_takeL (i := 9) (v := undef) rfl (by kernel_rfl) (by kernel_rfl) (by kernel_rfl) (by kernel_rfl) (fun _ _ _ h => h) (Or.inr ⟨by rfl, rfl⟩) hHeld ?rT9
       try simp only [Act.put, sL]
       refine' wpAnyK_takeL (i := 10) (v := undef) rfl (by kernel_rfl) (by kernel_rfl) (by kernel_rfl) (by kernel_rfl) (fun _ _ _ h => h) (Or.inr ⟨by rfl, rfl⟩) hHeld ?rT10
       try simp only [Act.put, sL]
       refine' wpAnyK_takeL (i := 11) (v := undef) rfl (by kernel_rfl) (by kernel_rfl) (by kernel_rfl) (by kernel_rfl) (fun _ _ _ h => h) (Or.inr ⟨by rfl, rfl⟩) hHeld ?rT11
       try simp only [Act.put, sL]
       refine' wpAnyK_takeL (i := 12) (v := undef) rfl (by kernel_rfl) (by kernel_rfl) (by kernel_rfl) (by kernel_rfl) (fun _ _ _ h => h) (Or.inr ⟨by rfl, rfl⟩) hHeld ?rT12
       try simp only [Act.put, sL]
       refine' wpAnyK_takeL (i := 13) (v := undef) rfl (by kernel_rfl) (by kernel_rfl) (by kernel_rfl) (by kernel_rfl) (fun _ _ _ h => h) (Or.inr ⟨by rfl, rfl⟩) hHeld ?rT13
       try simp only [Act.put, sL]
       refine' wpAnyK_takeL (i := 14) (v := undef) rfl (by kernel_rfl) (by kernel_rfl) (by kernel_rfl) (by kernel_rfl) (fun _ _ _ h => h) (Or.inr ⟨by rfl, rfl⟩) hHeld ?rT14
       try simp only [Act.put, sL]
       refine' wpAnyK_takeL (i := 15) (v := _) rfl (by kernel_rfl) (by kernel_rfl) (by kernel_rfl) (by kernel_rfl) (fun _ _ _ h => h) (Or.inl ⟨by rfl, ?yT15⟩) hHeld ?rT15
       case yT15 => (intro w' hSw; (try dsimp only at hSw); go_simp; try with_reducible rfl)
       try simp only [Act.put, sL]
       refine' wpAnyK_takeL (i := 16) (v := _) rfl (by kernel_rfl) (by kernel_rfl) (by kernel_rfl) (by kernel_rfl) (fun _ _ _ h => h) (Or.inl ⟨by rfl, ?yT16⟩) hHeld ?rT16
       case yT16 => (intro w' hSw; (try dsimp only at hSw); go_simp; try with_reducible rfl)
       try simp only [Act.put, sL]
       refine' wpAnyK_takeL (i := 17) (v := undef) rfl (by kernel_rfl) (by kernel_rfl) (by kernel_rfl) (by kernel_rfl) (fun _ _ _ h => h) (Or.inr ⟨by rfl, rfl⟩) hHeld ?rT17
       try simp only [Act.put, sL]
       refine' wpAnyK_takeL (i := 18) (v := undef) rfl (by kernel_rfl) (by kernel_rfl) (by kernel_rfl) (by kernel_rfl) (fun _ _ _ h => h) (Or.inr ⟨by rfl, rfl⟩) hHeld ?rT18
       try simp only [Act.put, sL]
       refine' wpAnyK_takeL (i := 19) (v := undef) rfl (by kernel_rfl) (by kernel_rfl) (by kernel_rfl) (by kernel_rfl) (fun _ _ _ h => h) (Or.inr ⟨by rfl, rfl⟩) hHeld ?rT19
       try simp only [Act.put, sL]
       refine' wpAnyK_takeL (i := 20) (v := undef) rfl (by kernel_rfl) (by kernel_rfl) (by kernel_rfl) (by kernel_rfl) (fun _ _ _ h => h) (Or.inr ⟨by rfl, rfl⟩) hHeld ?rT20
       try simp only [Act.put, sL]
       refine' wpAnyK_takeL (i := 21) (v := undef) rfl (by kernel_rfl) (by kernel_rfl) (by kernel_rfl) (by kernel_rfl) (fun _ _ _ h => h) (Or.inr ⟨by rfl, rfl⟩) hHeld ?rT21
       try simp only [Act.put, sL]
       refine' wpAnyK_takeL (i := 22) (v := undef) rfl (by kernel_rfl) (by kernel_rfl) (by kernel_rfl) (by kernel_rfl) (fun _ _ _ h => h) (Or.inr ⟨by rfl, rfl⟩) hHeld ?rT22
       try simp only [Act.put, sL]
       refine' wpAnyK_takeL (i := 23) (v := undef) rfl (by kernel_rfl) (by kernel_rfl) (by kernel_rfl) (by kernel_rfl) (fun _ _ _ h => h) (Or.inr ⟨by rfl, rfl⟩) hHeld ?rT23
       try simp only [Act.put, sL]
       refine' wpAnyK_takeL (i := 24) (v := undef) rfl (by kernel_rfl) (by kernel_rfl) (by kernel_rfl) (by kernel_rfl) (fun _ _ _ h => h) (Or.inr ⟨by rfl, rfl⟩) hHeld ?rT24
       try simp only [Act.put, sL]
       refine' wpAnyK_takeL (i := 25) (v := undef) rfl (by kernel_rfl) (by kernel_rfl) (by kernel_rfl) (by kernel_rfl) (fun _ _ _ h => h) (Or.inr ⟨by rfl, rfl⟩) hHeld ?rT25
       try simp only [Act.put, sL]
       refine' wpAnyK_takeL (i := 26) (v := undef) rfl (by kernel_rfl) (by kernel_rfl) (by kernel_rfl) (by kernel_rfl) (fun _ _ _ h => h) (Or.inr ⟨by rfl, rfl⟩) hHeld ?rT26
       try simp only [Act.put, sL]
       refine' wpAnyK_takeL (i := 27) (v := _) rfl (by kernel_rfl) (by kernel_rfl) (by kernel_rfl) (by kernel_rfl) (fun _ _ _ h => h) (Or.inl ⟨by rfl, ?yT27⟩) hHeld ?rT27
       case yT27 => (intro w' hSw; (try dsimp only at hSw); go_simp; try with_reducible rfl)
       try simp only [Act.put, sL]
       refine wpAnyK_done (by kernel_rfl) ?_ _
       go_wp2_with fail
       have hb5 := hd1
       have B4 := B3.trans (hb5.mono B3.size)
       go_wp2
       go_ret
       exact ⟨by rw [HR.out]; rfl, B4⟩
      ·cases hq : (l[k].1 != m)
       ·have hq2 : (m == l[k].1) = true := by simp at hq ⊢; omega
        cases hq3 : ((l[k].2.length : Int) != (xss.length : Int))
        ·have hq4 : ((xss.length : Int) == (l[k].2.length : Int)) = true := by simp at hq3 ⊢; omega
         have HF := Lib.hid (show curOfB m xss.length l[k] = true by simp only [curOfB, fitB, hq2, hq4, hz]; rfl)
         clear hq2 hq4
         go_wp2_with fail
         go_region_held3 (fun w' => w'.cell? ⟨w.heap.size, 0, none⟩ = some (.int .i64 m) ∧ w'.cell? ⟨w.heap.size, 1, none⟩ = some (.slice o xss.length c) ∧ w'.cell? ⟨b, off + k * 2, none⟩ = some (.int .i64 l[k].1) ∧ w'.cell? ⟨b, off + k * 2 + 1, none⟩ = some (.slice o2 l[k].2.length c2)) (go_keep) ((go_at_call 93; refine (l02Curve_c _ _ _ _ (hr.below bZ (nl _))).mono ?_; rw [HCU.out, hz]; rintro e w4 ⟨rfl, hb4⟩; have hb5 : Below wr.heap.size wr w4 := (by (repeat (first | exact bR _ _ | (refine bS ?_ _) | (refine bA ?_ _) | (refine bN ?_ _) | (refine bD ?_) | (refine bT ?_ hb4)))); obtain ⟨a0, a1⟩ := X3.below hb5 (nl _); have a2 := keep_cell hb5 (nl _) y0; have a3 := keep_cell hb5 (nl _) y1))
         go_wp2
         exact ⟨⟨k + 1, by omega, by go_num, Lib.hid (fun j hj h => by
          rcases Nat.lt_or_ge j k with h1 | h1
          ·exact HQ.out j hj h1
          ·obtain rfl : j = k := by omega
           exact HF.out), hbz.trans (hb5.mono hbz.size)⟩, by simp [intOf]; omega⟩
        ·have hq4 : ((xss.length : Int) == (l[k].2.length : Int)) = false := by simp at hq3 ⊢; omega
         have HF := Lib.hid (show curOfB m xss.length l[k] = false by simp only [curOfB, fitB, hq2, hq4]; rfl)
         have hR : curC m xss l = 2 := by
          have : l.all (curOfB m xss.length) = false := List.all_eq_false.2 ⟨l[k], List.getElem_mem _, by simp [HF.out]⟩
          simp only [curC, h1, HALL.out, this]; rfl
         have HR := Lib.hid hR
         clear hq2 hq4 hR
         go_wp2_with fail
         go_region_held3 (fun w' => w'.cell? ⟨w.heap.size, 0, none⟩ = some (.int .i64 m) ∧ w'.cell? ⟨w.heap.size, 1, none⟩ = some (.slice o xss.length c) ∧ w'.cell? ⟨b, off + k * 2, none⟩ = some (.int .i64 l[k].1) ∧ w'.cell? ⟨b, off + k * 2 + 1, none⟩ = some (.slice o2 l[k].2.length c2)) (go_keep) ((go_at_call 93; refine (l02Curve_c _ _ _ _ (hr.below bZ (nl _))).mono ?_; rw [HCU.out, hz]; rintro e w4 ⟨rfl, hb4⟩; have hb5 : Below wr.heap.size wr w4 := (by (repeat (first | exact bR _ _ | (refine bS ?_ _) | (refine bA ?_ _) | (refine bN ?_ _) | (refine bD ?_) | (refine bT ?_ hb4)))); obtain ⟨a0, a1⟩ := X3.below hb5 (nl _); have a2 := keep_cell hb5 (nl _) y0; have a3 := keep_cell hb5 (nl _) y1))
         have B4 := B3.trans (hb5.mono B3.size)
         go_wp2
         go_ret
         exact ⟨by rw [HR.out]; rfl, B4⟩
       ·have hq2 : (m == l[k].1) = false := by simp at hq ⊢; omega
        have HF := Lib.hid (show curOfB m xss.length l[k] = false by simp only [curOfB, fitB, hq2]; rfl)
        have hR : curC m xss l = 2 := by
         have : l.all (curOfB m xss.length) = false := List.all_eq_false.2 ⟨l[k], List.getElem_mem _, by simp [HF.out]⟩
         simp only [curC, h1, HALL.out, this]; rfl
        have HR := Lib.hid hR
        clear hq2 hR
        go_wp2_with fail
        have hd0 : Below wr.heap.size wr wr.drew := (Below.refl _ _).drew
        have hsd0 := hd0.size
        obtain ⟨f0_c, f0_d⟩ := ((X3).below (Below.refl wr.heap.size wr) (nl _))
        have f0_a := keep_cell hd0 (nl _) y0
        have f0_b := keep_cell hd0 (nl _) y1
        refine wp_region_K (S := fun w' => w'.cell? ⟨w.heap.size, 0, none⟩ = some (.int .i64 m) ∧ w'.cell? ⟨b, off + k * 2, none⟩ = some (.int .i64 l[k].1) ∧ w'.cell? ⟨b, off + k * 2 + 1, none⟩ = some (.slice o2 l[k].2.length c2)) [] (by kernel_rfl) ?_
        have hHeld : (fun w' : World => w'.cell? ⟨w.heap.size, 0, none⟩ = some (.int .i64 m) ∧ w'.cell? ⟨b, off + k * 2, none⟩ = some (.int .i64 l[k].1) ∧ w'.cell? ⟨b, off + k * 2 + 1, none⟩ = some (.slice o2 l[k].2.length c2)) wr.drew := by go_keep
        refine' wpAnyK_takeL (i := 0) (v := _) rfl (by kernel_rfl) (by kernel_rfl) (by kernel_rfl) (by kernel_rfl) (fun _ _ _ h => h) (Or.inl ⟨by rfl, ?yT28⟩) hHeld ?rT28
        case yT28 => (intro w' hSw; (try dsimp only at hSw); go_simp; try with_reducible rfl)
        try simp only [Act.put, sL]
        refine' wpAnyK_takeL (i := 1) (v := _) rfl (by kernel_rfl) (by kernel_rfl) (by kernel_rfl) (by kernel_rfl) (fun _ _ _ h => h) (Or.inl ⟨by rfl, ?yT29⟩) hHeld ?rT29
        case yT29 => (intro w' hSw; (try dsimp only at hSw); go_simp; try with_reducible rfl)
        try simp only [Act.put, sL]
        refine' wpAnyK_takeL (i := 2) (v := _) rfl (by kernel_rfl) (by kernel_rfl) (by kernel_rfl) (by kernel_rfl) (fun _ _ _ h => h) (Or.inl ⟨by rfl, ?yT30⟩) hHeld ?rT30
        case yT30 => (intro w' hSw; (try dsimp only at hSw); go_simp; try with_reducible rfl)
        try simp only [Act.put, sL]
        refine' wpAnyK_takeL (i := 3) (v := _) rfl (by kernel_rfl) (by kernel_rfl) (by kernel_rfl) (by kernel_rfl) (fun _ _ _ h => h) (Or.inl ⟨by rfl, ?yT31⟩) hHeld ?rT31
        case yT31 => (intro w' hSw; (try dsimp only at hSw); go_simp; try with_reducible rfl)
        try simp only [Act.put, sL]
        refine wpAnyK_oneL (i := 4) rfl (by kernel_rfl) (fun K hK => ?_)
        go_simp
        go_at_call 93
        refine (l02Curve_c _ _ _ _ ((hr).below bZ (nl _))).mono ?_
        rintro e wd1 ⟨he, hbd1⟩
        rw [HCU.out, hz] at he; subst he
        have hd1 : Below wr.heap.size wr wd1 := (by (repeat (first | exact bR _ _ | (refine bS ?_ _) | (refine bA ?_ _) | (refine bN ?_ _) | (refine bD ?_) | (refine bT ?_ hbd1))))
        have hsd1 := hd1.size
        have hsz1_ := hbd1.size
        (try simp at hsz1_)
        obtain ⟨f1_c, f1_d⟩ := ((X3).below hd1 (nl _))
        have f1_a := keep_cell hd1 (nl _) y0
        have f1_b := keep_cell hd1 (nl _) y1
        go_wp2_with fail
        clear hHeld
        have hHeld : (fun w' : World => w'.cell? ⟨w.heap.size, 0, none⟩ = some (.int .i64 m) ∧ w'.cell? ⟨b, off + k * 2, none⟩ = some (.int .i64 l[k].1) ∧ w'.cell? ⟨b, off + k * 2 + 1, none⟩ = some (.slice o2 l[k].2.length c2)) wd1 := by go_keep
        refine hK.out _ _ (fun _ => hHeld) ?_
        clear hK K
        try simp only [Act.put, sL]
        refine' wpAnyK_takeL (i := 5) (v := _) rfl (by kernel_rfl) (by kernel_rfl) (by kernel_rfl) (by kernel_rfl) (fun _ _ _ h => h) (Or.inl ⟨by rfl, ?yT32⟩) hHeld ?rT32
        case yT32 => (intro w' hSw; (try dsimp only at hSw); go_simp; try with_reducible rfl)
        try simp only [Act.put, sL]
        refine' wpAnyK_takeL (i := 6) (v := _) rfl (by kernel_rfl) (by kernel_rfl) (by kernel_rfl) (by kernel_rfl) (fun _ _ _ h => h) (Or.inl ⟨by rfl, ?yT33⟩) hHeld ?rT33
        case yT33 => (intro w' hSw; (try dsimp only at hSw); go_simp; try with_reducible rfl)
        try simp only [Act.put, sL]
        refine' wpAnyK_takeL (i := 7) (v := _) rfl (by kernel_rfl) (by kernel_rfl) (by kernel_rfl) (by kernel_rfl) (fun _ _ _ h => h) (Or.inl ⟨by rfl, ?yT34⟩) hHeld ?rT34
        case yT34 => (intro w' hSw; (try dsimp only at hSw); go_simp; try with_reducible rfl)
        try simp only [Act.put, sL]
        refine' wpAnyK_takeL (i := 8) (v := _) rfl (by kernel_rfl) (by kernel_rfl) (by kernel_rfl) (by kernel_rfl) (fun _ _ _ h => h) (Or.inl ⟨by rfl, ?yT35⟩) hHeld ?rT35
        case yT35 => (intro w' hSw; (try dsimp only at hSw); go_simp; try with_reducible rfl)
        try simp only [Act.put, sL]
        refine' wpAnyK_takeL (i := 9) (v := _) rfl (by kernel_rfl) (by kernel_rfl) (by kernel_rfl) (by kernel_rfl) (fun _ _ _ h => h) (Or.inl ⟨by rfl, ?yT36⟩) hHeld ?rT36
        case yT36 => (intro w' hSw; (try dsimp only at hSw); go_simp; try with_reducible rfl)
        try simp only [Act.put, sL]
        refine' wpAnyK_takeL (i := 10) (v := _) rfl (by kernel_rfl) (by kernel_rfl) (by kernel_rfl) (by kernel_rfl) (fun _ _ _ h => h) (Or.inl ⟨by rfl, ?yT37⟩) hHeld ?rT37
        case yT37 => (intro w' hSw; (try dsimp only at hSw); go_simp; try with_reducible rfl)
        try simp only [Act.put, sL]
        refine' wpAnyK_takeL (i := 11) (v := _) rfl (by kernel_rfl) (by kernel_rfl) (by kernel_rfl) (by kernel_rfl) (fun _ _ _ h => h) (Or.inl ⟨by rfl, ?yT38⟩) hHeld ?rT38
        case yT38 => (intro w' hSw; (try dsimp only at hSw); go_simp; try with_reducible rfl)
        try simp only [Act.put, sL]
        refine' wpAnyK_takeL (i := 12) (v := _) rfl (by kernel_rfl) (by kernel_rfl) (by kernel_rfl) (by kernel_rfl) (fun _ _ _ h => h) (Or.inl ⟨by rfl, ?yT39⟩) hHeld ?rT39
        case yT39 => (intro w' hSw; (try dsimp only at hSw); go_simp; try with_reducible rfl)
        try simp only [Act.put, sL]
        refine' wpAnyK_takeL (i := 13) (v := _) rfl (by kernel_rfl) (by kernel_rfl) (by kernel_rfl) (by kernel_rfl) (fun _ _ _ h => h) (Or.inl ⟨by rfl, ?yT40⟩) hHeld ?rT40
        case yT40 => (intro w' hSw; (try dsimp only at hSw); go_simp; try with_reducible rfl)
        try simp only [Act.put, sL]
        refine' wpAnyK_takeL (i := 14) (v := _) rfl (by kernel_rfl) (by kernel_rfl) (by kernel_rfl) (by kernel_rfl) (fun _ _ _ h => h) (Or.inl ⟨by rfl, ?yT41⟩) hHeld ?rT41
        case yT41 => (intro w' hSw; (try dsimp only at hSw); go_simp; try with_reducible rfl)
        try simp only [Act.put, sL]
        refine' wpAnyK_takeL (i := 15) (v := _) rfl (by kernel_rfl) (by kernel_rfl) (by kernel_rfl) (by kernel_rfl) (fun _ _ _ h => h) (Or.inl ⟨by rfl, ?yT42⟩) hHeld ?rT42
        case yT42 => (intro w' hSw; (try dsimp only at hSw); go_simp; try with_reducible rfl)
        try simp only [Act.put, sL]
        refine' wpAnyK_takeL (i := 16) (v := _) rfl (by kernel_rfl) (by kernel_rfl) (by kernel_rfl) (by kernel_rfl) (fun _ _ _ h => h) (Or.inl ⟨by rfl, ?yT43⟩) hHeld ?rT43
        case yT43 => (intro w' hSw; (try dsimp only at hSw); go_simp; try with_reducible rfl)
        try simp only [Act.put, sL]
        refine' wpAnyK_takeL (i := 17) (v := undef) rfl (by kernel_rfl) (by kernel_rfl) (by kernel_rfl) (by kernel_rfl) (fun _ _ _ h => h) (Or.inr ⟨by rfl, rfl⟩) hHeld ?rT44
        try simp only [Act.put, sL]
        refine' wpAnyK_takeL (i := 18) (v := undef) rfl (by kernel_rfl) (by kernel_rfl) (by kernel_rfl) (by kernel_rfl) (fun _ _ _ h => h) (Or.inr ⟨by rfl, rfl⟩) hHeld ?rT45
        try simp only [Act.put, sL]
        refine' wpAnyK_takeL (i := 19) (v := undef) rfl (by kernel_rfl) (by kernel_rfl) (by kernel_rfl) (by kernel_rfl) (fun _ _ _ h => h) (Or.inr ⟨by rfl, rfl⟩) hHeld ?rT46
        try simp only [Act.put, sL]
        refine' wpAnyK_takeL (i := 20) (v := undef) rfl (by kernel_rfl) (by kernel_rfl) (by kernel_rfl) (by kernel_rfl) (fun _ _ _ h => h) (Or.inr ⟨by rfl, rfl⟩) hHeld ?rT47
        try simp only [Act.put, sL]
        refine' wpAnyK_takeL (i := 21) (v := undef) rfl (by kernel_rfl) (by kernel_rfl) (by kernel_rfl) (by kernel_rfl) (fun _ _ _ h => h) (Or.inr ⟨by rfl, rfl⟩) hHeld ?rT48
        try simp only [Act.put, sL]
        refine' wpAnyK_takeL (i := 22) (v := undef) rfl (by kernel_rfl) (by kernel_rfl) (by kernel_rfl) (by kernel_rfl) (fun _ _ _ h => h) (Or.inr ⟨by rfl, rfl⟩) hHeld ?rT49
        try simp only [Act.put, sL]
        refine' wpAnyK_takeL (i := 23) (v := undef) rfl (by kernel_rfl) (by kernel_rfl) (by kernel_rfl) (by kernel_rfl) (fun _ _ _ h => h) (Or.inr ⟨by rfl, rfl⟩) hHeld ?rT50
        try simp only [Act.put, sL]
        refine' wpAnyK_takeL (i := 24) (v := undef) rfl (by kernel_rfl) (by kernel_rfl) (by kernel_rfl) (by kernel_rfl) (fun _ _ _ h => h) (Or.inr ⟨by rfl, rfl⟩) hHeld ?rT51
        try simp only [Act.put, sL]
        refine' wpAnyK_takeL (i := 25) (v := undef) rfl (by kernel_rfl) (by kernel_rfl) (by kernel_rfl) (by kernel_rfl) (fun _ _ _ h => h) (Or.inr ⟨by rfl, rfl⟩) hHeld ?rT52
        try simp only [Act.put, sL]
        refine' wpAnyK_takeL (i := 26) (v := undef) rfl (by kernel_rfl) (by kernel_rfl) (by kernel_rfl) (by kernel_rfl) (fun _ _ _ h => h) (Or.inr ⟨by rfl, rfl⟩) hHeld ?rT53
        try simp only [Act.put, sL]
        refine' wpAnyK_takeL (i := 27) (v := _) rfl (by kernel_rfl) (by kernel_rfl) (by kernel_rfl) (by kernel_rfl) (fun _ _ _ h => h) (Or.inl ⟨by rfl, ?yT54⟩) hHeld ?rT54
        case yT54 => (intro w' hSw; (try dsimp only at hSw); go_simp; try with_reducible rfl)
        try simp only [Act.put, sL]
        refine wpAnyK_done (by kernel_rfl) ?_ _
        go_wp2_with fail
        have hb5 := hd1
        have B4 := B3.trans (hb5.mono B3.size)
        go_wp2
        go_ret
        exact ⟨by rw [HR.out]; rfl, B4⟩
     ·have hR : curC m xss l = 0 := by
       have : l.all (curOfB m xss.length) = true := by
        rw [List.all_eq_true]
        intro p hp
        obtain ⟨j, hj, rfl⟩ := List.getElem_of_mem hp
        exact HQ.out j hj (by omega)
       simp only [curC, h1, HALL.out, this]; rfl
      have HR := Lib.hid hR
      clear hR
      go_wp2
      go_ret
      exact ⟨by rw [HR.out]; rfl, B3⟩
end Go.Proofs.YtfpphfjlpgefaaaGreat
