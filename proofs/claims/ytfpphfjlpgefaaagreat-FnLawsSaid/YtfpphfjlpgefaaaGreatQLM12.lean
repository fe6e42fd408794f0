/- Lemmas. -/
import Derived.Test.YtfpphfjlpgefaaaGreatQLPut
import Derived.Test.YtfpphfjlpgefaaaGreatQLG5
import Derived.Test.YtfpphfjlpgefaaaGreatQLG1
import Derived.Test.YtfpphfjlpgefaaaGreatQLG3
import Derived.Deep.RegionHeld3
import Derived.Test.YtfpphfjlpgefaaaGreatQLM7
set_option maxHeartbeats 4000000
set_option maxRecDepth 100000
set_option linter.unusedSimpArgs false
set_option linter.unusedVariables false
namespace Go.Proofs.YtfpphfjlpgefaaaGreat
open Go.RowKit

theorem variable_c (m d : Int) (n : Nat) (w : World) (hd : d + 1 = n) (h2 : 2 ≤ n) (hn : n ≤ 1048576) :
  Calls Tryz.prog 106 #[.int .i64 m, .int .i64 d] w fun e w' => SVEnd w w' m (varL n) e := by
 go_enter Tryz.func106, Tryz.ntmps106
 go_wp2_with fail
 have R0 := RB2.mk1 w (.int .i64 0) (.slice none 0 0) 34
 have B0 : Below w.heap.size w (w.alloc (.cells #[.int .i64 0, .slice none 0 0] 34)) := bZ
 generalize w.alloc (.cells #[.int .i64 0, .slice none 0 0] 34) = w0 at R0 B0 ⊢
 have hzl : w.heap.size < w0.heap.size := R0.1.lt
 go_wp2_with fail
 refine (zero_c m d n _ hd hn).mono ?_
 rintro e w1 ⟨vz, rfl, how, hb⟩
 obtain ⟨oz, cz, rfl⟩ := how.shapeN (n := n) (by simp)
 obtain ⟨g, rfl, hgl, hgl'⟩ := how.row (by omega)
 (have R1 := R0.below hb (nl _); have B1 := B0.trans (hb.mono B0.size))
 have hb1 := hb.size
 have lR := R1.1.lt
 have hc0 := how.cell (k := 1) (rep_get n 1 0 (by omega))
 have hf0 := how.fz 1
 have Hn := Lib.hid how
 clear how
 have i1 : 1 < n := by omega
 have i2 : (1 : Int) < (n : Int) := by omega
 have hgn : g ≠ w1.heap.size := by omega
 have hgr : g ≠ w.heap.size := by omega
 obtain ⟨⟨r0, r1⟩, rf⟩ := id R1
 go_wp2
 refine bodyPost_ret (v := .agg #[.int .i64 m, .slice (some ⟨g, 0, none⟩) n cz]) (by simp [results, Tryz.results106, go_sem, r0, r1, lR, hgn, hgr]) rfl ⟨_, rfl, ?_, ?_⟩
 ·exact ((((Hn.out.put 1 1).low (by first | (simp; done) | (simp; omega) | omega) _).low (by first | (simp; done) | (simp; omega) | omega) _).alloc _).mono (by first | (simp; done) | (simp; omega) | omega)
 ·(repeat (first | exact bR _ _ | (refine bS ?_ _) | (refine bA ?_ _) | (refine bN ?_ _) | (refine bD ?_) | (refine bT ?_ B1)))

theorem varTo_0 (n : Nat) (m : Int) (t : List (List Int)) : List.replicate n (0 : Int) = invTo m n t 0 := rfl

theorem inverseP_c (m : Int) (n : Nat) (v : Value) (t : List (List Int)) (w : World) (hv : RdT w v t) (h1 : 2 ≤ n) (hn : n ≤ 1000) (hm : 2 ≤ m) (hm' : m ≤ 10000) (ht : PlaT m n t) :
  Calls Tryz.prog 98 #[.agg #[.int .i64 m, v]] w fun e w' => SVEnd w w' m (invL m n t) e := by
 obtain ⟨o, c, rfl, hmt, -⟩ := id hv
 have hv' : RdT w (.slice o n c) t := by rw [ht.1] at hv; exact hv
 rw [ht.1] at hmt ⊢
 have hml := hmt.1
 have HT := Lib.hid ht
 clear ht hv
 unfold maxLen at hmt
 go_enter Tryz.func98, Tryz.ntmps98
 go_wp2_with fail
 (have X0 := ((RB2.mk1 w  (.int .i64 m) (.slice o n c) 26).1).below (w' := ((w.alloc (.cells #[.int .i64 m, .slice o n c] 26)).alloc (.cells #[.int .i64 0, .slice none 0 0] 34))) bZ (nl _); have R0 := ((RB2.mk2 w (.cells #[.int .i64 m, .slice o n c] 26) (.int .i64 0) (.slice none 0 0) 34)).below (w' := ((w.alloc (.cells #[.int .i64 m, .slice o n c] 26)).alloc (.cells #[.int .i64 0, .slice none 0 0] 34))) bZ (nl _); have B0 : Below w.heap.size w ((w.alloc (.cells #[.int .i64 m, .slice o n c] 26)).alloc (.cells #[.int .i64 0, .slice none 0 0] 34)) := bZ; have hv'0 := hv'.below (w' := ((w.alloc (.cells #[.int .i64 m, .slice o n c] 26)).alloc (.cells #[.int .i64 0, .slice none 0 0] 34))) bZ (nl _); generalize (w.alloc (.cells #[.int .i64 m, .slice o n c] 26)).alloc (.cells #[.int .i64 0, .slice none 0 0] 34) = w0 at X0 R0 B0 hv'0 ⊢)
 have hzl : w.heap.size + 1 < w0.heap.size := R0.1.lt
 go_cut [3] (fun sb u => ∃ (wz : World) (b : Nat) (ot : Option Addr) (ct : Nat), wz = u ∧ sb = .pointer (some ⟨b, 0, none⟩) ∧ w0.heap.size ≤ b ∧ RB2 u b (.int .i64 m) (.slice ot n ct) ∧ OwI u w0.heap.size (.slice ot n ct) (varL n) ∧ (∀ k, (Value.slice ot n ct).ownBlock = some k → k ≠ b) ∧ Below w0.heap.size w0 u)
 case first =>
  have hd0 : Below w0.heap.size w0 w0.drew := (Below.refl _ _).drew
  have hsd0 := hd0.size
  have hlb_X0 := X0.lt
  obtain ⟨q0_X0_0, q0_X0_1⟩ := X0.below (Below.refl w0.heap.size w0) (nl _)
  have hne0_X0 : w0.heap.size ≠ w.heap.size := by omega
  go_region_held3 (fun w' => w'.cell? ⟨w.heap.size, 0, none⟩ = some (.int .i64 m) ∧ w'.cell? ⟨w.heap.size, 1, none⟩ = some (.slice o n c)) (go_keep)
   (first
    | (go_at_call 78; refine (degreeP_c m o n c _ hml).mono ?_; rintro e wd1 ⟨rfl, hbd1⟩; have hd1 : Below w0.heap.size w0 wd1 := (by (repeat (first | exact bR _ _ | (refine bS ?_ _) | (refine bA ?_ _) | (refine bN ?_ _) | (refine bD ?_) | (refine bT ?_ hbd1)))); have hsd1 := hd1.size; have hsz1_ := hbd1.size; (try simp at hsz1_); obtain ⟨q1_X0_0, q1_X0_1⟩ := X0.below hd1 (nl _); have hne1_X0 : wd1.heap.size ≠ w.heap.size := (by omega); (try (have RZ := RZ.below hbd1 (nl _))); (try (have RZ := (show RB2 (w0.alloc (.cells #[.int .i64 0, .slice none 0 0] 34)).drew w0.heap.size (.int .i64 0) (.slice none 0 0) from RB2.mk1 w0 (.int .i64 0) (.slice none 0 0) _).below hbd1 (nl _))); (try (obtain ⟨⟨z1_0, z1_1⟩, zf1⟩ := id RZ)))
    | (go_at_call 106; refine (variable_c m ((n : Int) - 1) n _ (by omega) h1 (by omega)).mono ?_; rintro e wd2 ⟨vz2, rfl, hod2, hbd2⟩; obtain ⟨ot, ct, rfl⟩ := hod2.shapeN (n := n) (varL_len _); have hd2 : Below w0.heap.size w0 wd2 := (by (repeat (first | exact bR _ _ | (refine bS ?_ _) | (refine bA ?_ _) | (refine bN ?_ _) | (refine bD ?_) | (refine bT ?_ hbd1) | (refine bT ?_ hbd2)))); have hsd2 := hd2.size; have hsz2_ := hbd2.size; (try simp at hsz2_); obtain ⟨q2_X0_0, q2_X0_1⟩ := X0.below hd2 (nl _); have hne2_X0 : wd2.heap.size ≠ w.heap.size := (by omega); (try (have RZ := RZ.below hbd2 (nl _))); (try (have RZ := (show RB2 (wd1.alloc (.cells #[.int .i64 0, .slice none 0 0] 34)) wd1.heap.size (.int .i64 0) (.slice none 0 0) from RB2.mk1 wd1 (.int .i64 0) (.slice none 0 0) _).below hbd2 (nl _))); (try (obtain ⟨⟨z2_0, z2_1⟩, zf2⟩ := id RZ))))
  all_goals
   go_wp2_with fail
   go_meet
   have hL := hod2.lt
   refine ⟨_, _, ot, ct, rfl, rfl, ?_, ?_, ?_, ?_, ?_⟩
   ·first | omega | (simp; done) | (simp; omega)
   ·first | exact RB2.mk1 _ _ _ _ | exact RB2.put RZ _ _
   ·first | exact (hod2.alloc _).mono (by first | (simp; done) | (simp; omega) | omega) | exact ((hod2.low (by first | (simp; done) | (simp; omega) | omega) _).low (by first | (simp; done) | (simp; omega) | omega) _).mono (by first | (simp; done) | (simp; omega) | omega)
   ·intro k hk; have hq := hL k hk; first | omega | (simp at hq; omega)
   ·(repeat (first | exact bR _ _ | (refine bS ?_ _) | (refine bA ?_ _) | (refine bN ?_ _) | (refine bD ?_) | (refine bT ?_ hbd1) | (refine bT ?_ hbd2)))
 case rest =>
 obtain ⟨w1, bt, ot, ct, rfl, rfl, hbW, O, how, hneb, hb⟩ := hcut
 obtain ⟨gt, rfl, hgt, hgt'⟩ := how.row (by omega)
 have hgtb := hneb gt rfl
 clear hneb
 (have X1 := X0.below hb (nl _); have R1 := R0.below hb (nl _); have hv'1 := hv'0.below hb (nl _); have B1 := B0.trans (hb.mono B0.size))
 have OT1 := O.1
 have hrt1 := how.rd
 clear O how
 have lT := OT1.lt
 have hb1s := hb.size
 obtain ⟨x0, x1⟩ := id X1
 go_wp2_with fail
 clear x0 x1
 go_cut [4] (fun sb u => ∃ (wz : World) (b : Nat) (oz : Option Addr) (cz : Nat), wz = u ∧ sb = .pointer (some ⟨b, 0, none⟩) ∧ w1.heap.size ≤ b ∧ RB2 u b (.int .i64 m) (.slice oz n cz) ∧ OwI u w1.heap.size (.slice oz n cz) (List.replicate n 0) ∧ (∀ k, (Value.slice oz n cz).ownBlock = some k → k ≠ b) ∧ Below w1.heap.size w1 u)
 case first =>
  have hd0 : Below w1.heap.size w1 w1.drew := (Below.refl _ _).drew
  have hsd0 := hd0.size
  have hlb_X1 := X1.lt
  obtain ⟨q0_X1_0, q0_X1_1⟩ := X1.below (Below.refl w1.heap.size w1) (nl _)
  have hne0_X1 : w1.heap.size ≠ w.heap.size := by omega
  go_region_held3 (fun w' => w'.cell? ⟨w.heap.size, 0, none⟩ = some (.int .i64 m) ∧ w'.cell? ⟨w.heap.size, 1, none⟩ = some (.slice o n c)) (go_keep)
   (first
    | (go_at_call 78; refine (degreeP_c m o n c _ hml).mono ?_; rintro e wd1 ⟨rfl, hbd1⟩; have hd1 : Below w1.heap.size w1 wd1 := (by (repeat (first | exact bR _ _ | (refine bS ?_ _) | (refine bA ?_ _) | (refine bN ?_ _) | (refine bD ?_) | (refine bT ?_ hbd1)))); have hsd1 := hd1.size; have hsz1_ := hbd1.size; (try simp at hsz1_); obtain ⟨q1_X1_0, q1_X1_1⟩ := X1.below hd1 (nl _); have hne1_X1 : wd1.heap.size ≠ w.heap.size := (by omega); (try (have RZ := RZ.below hbd1 (nl _))); (try (have RZ := (show RB2 (w1.alloc (.cells #[.int .i64 0, .slice none 0 0] 34)).drew w1.heap.size (.int .i64 0) (.slice none 0 0) from RB2.mk1 w1 (.int .i64 0) (.slice none 0 0) _).below hbd1 (nl _))); (try (obtain ⟨⟨z1_0, z1_1⟩, zf1⟩ := id RZ)))
    | (go_at_call 144; refine (zero_c m ((n : Int) - 1) n _ (by omega) (by omega)).mono ?_; rintro e wd2 ⟨vz2, rfl, hod2, hbd2⟩; obtain ⟨oz, cz, rfl⟩ := hod2.shapeN (n := n) (by simp); have hd2 : Below w1.heap.size w1 wd2 := (by (repeat (first | exact bR _ _ | (refine bS ?_ _) | (refine bA ?_ _) | (refine bN ?_ _) | (refine bD ?_) | (refine bT ?_ hbd1) | (refine bT ?_ hbd2)))); have hsd2 := hd2.size; have hsz2_ := hbd2.size; (try simp at hsz2_); obtain ⟨q2_X1_0, q2_X1_1⟩ := X1.below hd2 (nl _); have hne2_X1 : wd2.heap.size ≠ w.heap.size := (by omega); (try (have RZ := RZ.below hbd2 (nl _))); (try (have RZ := (show RB2 (wd1.alloc (.cells #[.int .i64 0, .slice none 0 0] 34)) wd1.heap.size (.int .i64 0) (.slice none 0 0) from RB2.mk1 wd1 (.int .i64 0) (.slice none 0 0) _).below hbd2 (nl _))); (try (obtain ⟨⟨z2_0, z2_1⟩, zf2⟩ := id RZ))))
  all_goals
   go_wp2_with fail
   go_meet
   have hL := hod2.lt
   refine ⟨_, _, oz, cz, rfl, rfl, ?_, ?_, ?_, ?_, ?_⟩
   ·first | omega | (simp; done) | (simp; omega)
   ·first | exact RB2.mk1 _ _ _ _ | exact RB2.put RZ _ _
   ·first | exact (hod2.alloc _).mono (by first | (simp; done) | (simp; omega) | omega) | exact ((hod2.low (by first | (simp; done) | (simp; omega) | omega) _).low (by first | (simp; done) | (simp; omega) | omega) _).mono (by first | (simp; done) | (simp; omega) | omega)
   ·intro k hk; have hq := hL k hk; first | omega | (simp at hq; omega)
   ·(repeat (first | exact bR _ _ | (refine bS ?_ _) | (refine bA ?_ _) | (refine bN ?_ _) | (refine bD ?_) | (refine bT ?_ hbd1) | (refine bT ?_ hbd2)))
 case rest =>
 obtain ⟨w2, bo, oz, cz, rfl, rfl, hbW, O, how, hneb, hb⟩ := hcut
 obtain ⟨g, rfl, hgl, hgl'⟩ := how.row (by omega)
 have hgb := hneb g rfl
 clear hneb
 have hbq := hb
 (have X2 := X1.below hb (nl _); have R2 := R1.below hb (nl _); have hv'2 := hv'1.below hb (nl _); have B2 := B1.trans (hb.mono B1.size))
 have OT2' := OT1
 have hrt2' := hrt1
 have lO := O.1.lt
 have B2s := B2.size
 rw [varTo_0 n m t] at how
 have HO0 := Lib.hid how
 clear how hb OT1 hrt1
 go_wp2_with fail
 go_loopw [5] (fun i wr => ∃ k : Nat, k + 1 ≤ n ∧ i = .int .i64 ((k : Int) + 1) ∧ OwI wr w1.heap.size (.slice (some ⟨g, 0, none⟩) n cz) (invTo m n t k) ∧ RB2 wr bo (.int .i64 m) (.slice (some ⟨g, 0, none⟩) n cz) ∧ Below w1.heap.size w1 wr) (fun i _ => n - (intOf i).toNat)
 case atStart => exact ⟨0, by omega, by go_num, HO0.out, O, hbq⟩
 case round =>
  clear hbq O HO0 lO B2s
  obtain ⟨k, hk, rfl, hO, OO, hbr⟩ := hrel
  have B1s := B1.size
  have hbrs := hbr.size
  have Br := B1.trans (hbr.mono B1s)
  have Xr := X1.below hbr (nl _)
  have hvr := hv'1.below hbr (nl _)
  have Tr := OT2'.below hbr (nl _)
  have hrtr := hrt2'.below hbr (nl _)
  have Rr := R1.below hbr (nl _)
  have lOr := OO.1.lt
  have lTr := Tr.lt
  have lXr := Xr.lt
  have hBrs := Br.size
  obtain ⟨x0, x1⟩ := id Xr
  go_wp2_with fail
  refine (degreeP_c m o n c _ hml).mono ?_
  rintro e w3 ⟨rfl, hb3⟩
  clear x0 x1
  have hb3s := hb3.size
  have X3 := Xr.below hb3 (nl _)
  have T3 := Tr.below hb3 (nl _)
  have hv3 := hvr.below hb3 (nl _)
  have hrt3 := hrtr.below hb3 (nl _)
  have O3 := OO.below hb3 (nl _)
  have R3 := Rr.below hb3 (nl _)
  have hO3 := hO.below hb3
  have hbr3 := hbr.trans (hb3.mono hbrs)
  have B3 := B1.trans (hbr3.mono B1s)
  have B3s := B3.size
  clear hO OO Xr Tr hvr hrtr Rr hbr Br hb3 lOr lTr lXr
  by_cases hlt : k + 1 < n
  ·have i0 : (0 : Int) ≤ (k : Int) + 1 := by omega
   have i1 : (k : Int) + 1 ≤ (n : Int) - 1 := by omega
   have i2 : (k : Int) + 1 < (n : Int) := by omega
   have i3 : ((k : Int) + 1).toNat = k + 1 := by omega
   obtain ⟨pl, hpl⟩ : ∃ pl, pl = putL m n t (varL n) (invTo m n t k) := ⟨_, rfl⟩
   have hplen : pl.length = n := by rw [hpl]; exact putTo_len _ _ _ _ _ _ _
   have hpx : 0 ≤ at0 pl (k + 1) ∧ at0 pl (k + 1) < m := at0_range (by omega) (by rw [hpl]; exact putTo_range (by omega)) _
   have HPL := Lib.hid hpl
   have hwr : IntKind.i64.wrap (-(at0 pl (k + 1))) = -(at0 pl (k + 1)) := IntWalk.i64_in _ (by omega)
   have HS := Lib.hid (show (invTo m n t k).set (k + 1) ((-(at0 pl (k + 1))) % m) = invTo m n t (k + 1) by rw [hpl]; rfl)
   clear hpl
   have HLi := Lib.hid (invTo_len m n t k)
   have HRi := Lib.hid (invTo_range (m := m) (show 0 < m by omega) n t k)
   have lX3 := X3.lt
   have lT3 := T3.lt
   have lO3 := O3.1.lt
   go_wp2_with fail
   have hd0 : Below w3.heap.size w3 w3.drew := (Below.refl _ _).drew
   have hsd0 := hd0.size
   obtain ⟨f0_a, f0_b⟩ := ((X3).below (Below.refl w3.heap.size w3) (nl _))
   obtain ⟨f0_c, f0_d⟩ := ((T3).below (Below.refl w3.heap.size w3) (nl _))
   obtain ⟨f0_e, f0_f⟩ := ((O3.1).below (Below.refl w3.heap.size w3) (nl _))
   have hw0_ := hO3.below hd0
   have hc0_ := hw0_.cell (k := k + 1) (some_at0 (by rw [HLi.out]; omega))
   have hf0_ := hw0_.fz (k + 1)
   refine wp_region_K (S := fun w' => w'.cell? ⟨w.heap.size, 0, none⟩ = some (.int .i64 m) ∧ w'.cell? ⟨w.heap.size, 1, none⟩ = some (.slice o n c) ∧ w'.cell? ⟨bt, 0, none⟩ = some (.int .i64 m) ∧ w'.cell? ⟨bt, 1, none⟩ = some (.slice (some ⟨gt, 0, none⟩) n ct) ∧ w'.cell? ⟨bo, 0, none⟩ = some (.int .i64 m) ∧ w'.cell? ⟨bo, 1, none⟩ = some (.slice (some ⟨g, 0, none⟩) n cz)) [16] (by kernel_rfl) ?_
   have hHeld : (fun w' : World => w'.cell? ⟨w.heap.size, 0, none⟩ = some (.int .i64 m) ∧ w'.cell? ⟨w.heap.size, 1, none⟩ = some (.slice o n c) ∧ w'.cell? ⟨bt, 0, none⟩ = some (.int .i64 m) ∧ w'.cell? ⟨bt, 1, none⟩ = some (.slice (some ⟨gt, 0, none⟩) n ct) ∧ w'.cell? ⟨bo, 0, none⟩ = some (.int .i64 m) ∧ w'.cell? ⟨bo, 1, none⟩ = some (.slice (some ⟨g, 0, none⟩) n cz)) w3.drew := by go_keep
   refine' wpAnyK_takeL (i := 0) (v := _) rfl (by kernel_rfl) (by kernel_rfl) (by kernel_rfl) (by kernel_rfl) (fun _ _ _ h => h) (Or.inl ⟨by rfl, ?yT1⟩) hHeld ?rT1
   case yT1 => (intro w' hSw; (try dsimp only at hSw); go_simp; try with_reducible rfl)
   try simp only [Act.put, sL]
   refine' wpAnyK_takeL (i := 1) (v := _) rfl (by kernel_rfl) (by kernel_rfl) (by kernel_rfl) (by kernel_rfl) (fun _ _ _ h => h) (Or.inl ⟨by rfl, ?yT2⟩) hHeld ?rT2
   case yT2 => (intro w' hSw; (try dsimp only at hSw); go_simp; try with_reducible rfl)
   try simp only [Act.put, sL]
   refine' wpAnyK_takeL (i := 2) (v := _) rfl (by kernel_rfl) (by kernel_rfl) (by kernel_rfl) (by kernel_rfl) (fun _ _ _ h => h) (Or.inl ⟨by rfl, ?yT3⟩) hHeld ?rT3
   case yT3 => (intro w' hSw; (try dsimp only at hSw); go_simp; try with_reducible rfl)
   try simp only [Act.put, sL]
   refine' wpAnyK_takeL (i := 3) (v := _) rfl (by kernel_rfl) (by kernel_rfl) (by kernel_rfl) (by kernel_rfl) (fun _ _ _ h => h) (Or.inl ⟨by rfl, ?yT4⟩) hHeld ?rT4
   case yT4 => (intro w' hSw; (try dsimp only at hSw); go_simp; try with_reducible rfl)
   try simp only [Act.put, sL]
   refine' wpAnyK_takeL (i := 4) (v := _) rfl (by kernel_rfl) (by kernel_rfl) (by kernel_rfl) (by kernel_rfl) (fun _ _ _ h => h) (Or.inl ⟨by rfl, ?yT5⟩) hHeld ?rT5
   case yT5 => (intro w' hSw; (try dsimp only at hSw); go_simp; try with_reducible rfl)
   try simp only [Act.put, sL]
   refine' wpAnyK_takeL (i := 5) (v := _) rfl (by kernel_rfl) (by kernel_rfl) (by kernel_rfl) (by kernel_rfl) (fun _ _ _ h => h) (Or.inl ⟨by rfl, ?yT6⟩) hHeld ?rT6
   case yT6 => (intro w' hSw; (try dsimp only at hSw); go_simp; try with_reducible rfl)
   try simp only [Act.put, sL]
   refine' wpAnyK_takeL (i := 8) (v := _) rfl (by kernel_rfl) (by kernel_rfl) (by kernel_rfl) (by kernel_rfl) (fun _ _ _ h => h) (Or.inl ⟨by rfl, ?yT7⟩) hHeld ?rT7
   case yT7 => (intro w' hSw; (try dsimp only at hSw); go_simp; try with_reducible rfl)
   try simp only [Act.put, sL]
   refine' wpAnyK_takeL (i := 12) (v := _) rfl (by kernel_rfl) (by kernel_rfl) (by kernel_rfl) (by kernel_rfl) (fun _ _ _ h => h) (Or.inl ⟨by rfl, ?yT8⟩) hHeld ?rT8
   case yT8 => (intro w' hSw; (try dsimp only at hSw); go_simp; try with_reducible rfl)
   try simp only [Act.put, sL]
   refine' wpAnyK_takeL (i := 13) (v := _) rfl (by kernel_rfl) (by kernel_rfl) (by kernel_rfl) (by kernel_rfl) (fun _ _ _ h => h) (Or.inl ⟨by rfl, ?yT9⟩) hHeld ?rT9
   case yT9 => (intro w' hSw; (try dsimp only at hSw); go_simp; try with_reducible rfl)
   try simp only [Act.put, sL]
   refine wpAnyK_oneL (i := 6) rfl (by kernel_rfl) (fun K hK => ?_)
   go_simp
   go_at_call 45
   refine (curvesP_c m m n _ _ _ t (varL n) (invTo m n t k) _ ((hv3).below bZ (nl _)) ((hrt3).below bZ (nl _)) ((hO3.rd).below bZ (nl _)) (varL_len _) HLi.out (by omega) (by omega) hm hm' HT.out (varL_range hm _) HRi.out).mono ?_
   rintro e wd1 ⟨vp, rfl, hod1, hbd1⟩
   rw [← HPL.out] at hod1; obtain ⟨op, cp, rfl⟩ := hod1.shapeN (n := n) hplen; obtain ⟨gp, rfl, hgp, hgp'⟩ := hod1.row (by omega); have hcv := hod1.cell (k := k + 1) (some_at0 (show k + 1 < pl.length by omega))
   have hd1 : Below w3.heap.size w3 wd1 := (by (repeat (first | exact bR _ _ | (refine bS ?_ _) | (refine bA ?_ _) | (refine bN ?_ _) | (refine bD ?_) | (refine bT ?_ hbd1))))
   have hsd1 := hd1.size
   have hsz1_ := hbd1.size
   (try simp at hsz1_)
   obtain ⟨f1_a, f1_b⟩ := ((X3).below hd1 (nl _))
   obtain ⟨f1_c, f1_d⟩ := ((T3).below hd1 (nl _))
   obtain ⟨f1_e, f1_f⟩ := ((O3.1).below hd1 (nl _))
   have hw1_ := hO3.below hd1
   have hc1_ := hw1_.cell (k := k + 1) (some_at0 (by rw [HLi.out]; omega))
   have hf1_ := hw1_.fz (k + 1)
   go_wp2_with fail
   clear hHeld
   have hHeld : (fun w' : World => w'.cell? ⟨w.heap.size, 0, none⟩ = some (.int .i64 m) ∧ w'.cell? ⟨w.heap.size, 1, none⟩ = some (.slice o n c) ∧ w'.cell? ⟨bt, 0, none⟩ = some (.int .i64 m) ∧ w'.cell? ⟨bt, 1, none⟩ = some (.slice (some ⟨gt, 0, none⟩) n ct) ∧ w'.cell? ⟨bo, 0, none⟩ = some (.int .i64 m) ∧ w'.cell? ⟨bo, 1, none⟩ = some (.slice (some ⟨g, 0, none⟩) n cz)) wd1 := by go_keep
   refine hK.out _ _ (fun _ => hHeld) ?_
   clear hK K
   try simp only [Act.put, sL]
   refine wpAnyK_oneL (i := 7) rfl (by kernel_rfl) (fun K hK => ?_)
   go_simp
   (try go_wp2_with fail)
   refine hK.out _ _ (fun _ => hHeld) ?_
   clear hK K
   try simp only [Act.put, sL]
   refine wpAnyK_oneL (i := 9) rfl (by kernel_rfl) (fun K hK => ?_)
   go_simp
   (try go_wp2_with fail)
   refine hK.out _ _ (fun _ => hHeld) ?_
   clear hK K
   try simp only [Act.put, sL]
   refine wpAnyK_oneL (i := 10) rfl (by kernel_rfl) (fun K hK => ?_)
   go_simp
   (try go_wp2_with fail)
   refine hK.out _ _ (fun _ => hHeld) ?_
   clear hK K
   try simp only [Act.put, sL]
   refine wpAnyK_oneL (i := 11) rfl (by kernel_rfl) (fun K hK => ?_)
   go_simp
   (try go_wp2_with fail)
   refine hK.out _ _ (fun _ => hHeld) ?_
   clear hK K
   try simp only [Act.put, sL]
   refine wpAnyK_oneL (i := 14) rfl (by kernel_rfl) (fun K hK => ?_)
   go_simp
   go_at_call 126
   refine (mod_c (-(at0 pl (k + 1))) m _ (by omega) (by omega) (by omega) (by omega)).mono ?_
   rintro e w' ⟨rfl, rfl⟩
   go_wp2_with fail
   refine hK.out _ _ (fun _ => hHeld) ?_
   clear hK K
   try simp only [Act.put, sL]
   refine wpAnyK_oneL (i := 15) rfl (by kernel_rfl) (fun K hK => ?_)
   go_simp
   (try go_wp2_with fail)
   refine hK.out _ _ (fun _ => hHeld) ?_
   clear hK K
   try simp only [Act.put, sL]
   refine wpAnyK_oneL (i := 16) rfl (by kernel_rfl) (fun K hK => ?_)
   go_simp
   (try go_wp2_with fail)
   refine hK.out _ _ (fun h => absurd h (by decide)) ?_
   clear hK K
   try simp only [Act.put, sL]
   refine wpAnyK_done (by kernel_rfl) ?_ _
   go_wp2_with fail
   have hOn := hO3.below hd1
   have On := (O3.below hd1 (nl _)).grown (gr_put (World.grownBy.refl wd1 (some g)) (k + 1) (.int .i64 ((-(at0 pl (k + 1))) % m))) (by simp; omega)
   have hbn := below_put (hbr3.trans (hd1.mono hbr3.size)) (g := g) (k := k + 1) (by omega) (.int .i64 ((-(at0 pl (k + 1))) % m))
   have hOz := hOn.put (k + 1) ((-(at0 pl (k + 1))) % m)
   rw [HS.out] at hOz
   exact ⟨⟨k + 1, by omega, by go_num, hOz, On, hbn⟩, by simp [intOf]; omega⟩
  ·obtain rfl : n = k + 1 := by omega
   have i1 : ¬ (k : Int) + 1 ≤ ((k + 1 : Nat) : Int) - 1 := by omega
   obtain ⟨⟨z0, z1⟩, zf⟩ := id O3
   obtain ⟨⟨r0, r1⟩, rf⟩ := id R3
   have lR3 := R3.1.lt
   go_wp2
   refine bodyPost_ret (v := .agg #[.int .i64 m, .slice (some ⟨g, 0, none⟩) (k + 1) cz]) (by simp [results, Tryz.results98, go_sem, r0, r1]) rfl ⟨_, rfl, ?_, ?_⟩
   ·exact ((hO3.low (by first | (simp; done) | (simp; omega) | omega) _).low (by first | (simp; done) | (simp; omega) | omega) _).mono (by first | (simp; done) | (simp; omega) | omega)
   ·(repeat (first | exact bR _ _ | (refine bS ?_ _) | (refine bA ?_ _) | (refine bN ?_ _) | (refine bD ?_) | (refine bT ?_ B3)))
end Go.Proofs.YtfpphfjlpgefaaaGreat
/- Sums, products and compositions of series: the functions that are called. -/
namespace Go.Proofs.YtfpphfjlpgefaaaGreat
open Go.RowKit

end Go.Proofs.YtfpphfjlpgefaaaGreat

/- Compositions of series: the reference, and the functions that are called. -/
namespace Go.Proofs.YtfpphfjlpgefaaaGreat
open Go.RowKit

theorem horn_take {m : Int} {n : Nat} {f a : List Int} {k : Nat} (hk : k < a.length) : horn m n f (a.drop k) = addc m (at0 a k) (timesL m n (horn m n f (a.drop (k + 1))) f) := horn_drop (some_at0 hk)

theorem l02Compose_c (m d : Int) (n : Nat) (v u : Value) (xs fs : List Int) (w : World) (hd : d = (n : Int) - 1) (hv : RdI w v xs) (hu : RdI w u fs) (h1 : 1 ≤ n) (hl : 1 ≤ xs.length) (hn : n ≤ 1048576) (hm : 2 ≤ m) (hm' : m ≤ 10000)
  (hx : ∀ x ∈ xs, 0 ≤ x ∧ x < m) (hf : ∀ x ∈ fs, 0 ≤ x ∧ x < m) :
  Calls Tryz.prog 100 #[.int .i64 m, v, u, .int .i64 d] w fun e w' => ∃ v', e = .returned v' ∧ OwI w' w.heap.size v' (horn m n fs (xs.take n)) ∧ Below w.heap.size w w' := by
 subst hd
 obtain ⟨o, c, rfl, hmx, -⟩ := id hv
 obtain ⟨o', c', rfl, hmy, -⟩ := id hu
 have hml := hmx.1
 unfold maxLen at hmx hmy
 have m0 : (m == 0) = false := by simp; omega
 have m1 : ¬ m = 0 := by omega
 obtain ⟨bx, fx, rfl, -⟩ := hv.cells hl
 have hls : (xs.take n).length = min n xs.length := List.length_take
 have HR := Lib.hid (show ∀ k, k < (xs.take n).length → at0 (xs.take n) k = at0 xs k from fun k hk => by
  unfold at0 List.getD; rw [List.getElem?_take, if_pos (by omega)])
 generalize xs.take n = zs at hls HR ⊢
 obtain ⟨z, hz, hzz⟩ : ∃ z : Nat, min ((xs.length : Int) - 1) ((n : Int) - 1) = (z : Int) - 1 ∧ zs.length = z := ⟨zs.length, by omega, rfl⟩
 go_enter Tryz.func100, Tryz.ntmps100
 go_wp2_with (at_make; refine mkI _ rfl _ _ rfl _ _ _ n rfl rfl (by omega) (by omega) ?_; intro w1 hown hb hs1)
 all_goals
  clear hs1
  go_loopw [9, 10] (fun s i wr => ∃ (j : Nat) (ov : Option Addr) (cv : Nat), j ≤ zs.length ∧ i = .int .i64 ((j : Int) - 1) ∧ s = .slice ov n cv ∧ OwI wr w.heap.size (.slice ov n cv) (horn m n fs (zs.drop j)) ∧ Below w.heap.size w wr) (fun _ i _ => ((intOf i) + 1).toNat)
  case atStart => first | exact ⟨zs.length, _, _, Nat.le_refl _, by rw [hzz], rfl, by rw [List.drop_of_length_le (nl _)]; exact hown, hb⟩ | exact ⟨n, _, _, by omega, rfl, rfl, by rw [List.drop_of_length_le (by omega)]; exact hown, hb⟩ | exact ⟨xs.length, _, _, by omega, rfl, rfl, by rw [List.drop_of_length_le (by omega)]; exact hown, hb⟩
  case round =>
   obtain ⟨j, ov, cv, hj, rfl, rfl, hO, hB⟩ := hrel
   by_cases hlt : 0 < j
   ·obtain ⟨k, rfl⟩ : ∃ k, j = k + 1 := ⟨j - 1, by omega⟩
    have ek : (((k + 1 : Nat) : Int)) - 1 = (k : Int) := by omega
    rw [ek]
    clear ek
    have HS := Lib.hid (horn_take (m := m) (n := n) (f := fs) (a := zs) (k := k) (by omega))
    rw [HR.out k (by omega)] at HS
    have HLl := Lib.hid (horn_len m n fs (zs.drop (k + 1)))
    have HRl := Lib.hid (horn_range (m := m) (show 0 < m by omega) (n := n) (f := fs) (cs := zs.drop (k + 1)))
    generalize horn m n fs (zs.drop (k + 1)) = l at hO HS HLl HRl
    have hkx := at0_range (by omega) hx k
    have i0 : (0 : Int) ≤ (k : Int) := by omega
    have i1 : (k : Int) < (xs.length : Int) := by omega
    have i2 : k < xs.length := by omega
    have n0 : 0 < n := h1
    have hBs := hB.size
    go_wp2_with (go_at_call 97; refine (l02Times_c m _ n _ _ l fs _ rfl hO.rd (hu.below hB (nl _)) h1 hn hm (by omega) HRl.out hf).mono ?_; rintro e w2 ⟨vt, rfl, how, hb2⟩; obtain ⟨ot, ct, rfl⟩ := how.shapeN (n := n) (timesL_len _ _ _ _))
    obtain ⟨g, rfl, hgl, hgl'⟩ := how.row h1
    have B2 := hB.trans (hb2.mono hBs)
    have cx := (hv.below B2 (nl _)).cell0 (some_at0 i2)
    have hT := at0_range (by omega) (timesL_range (m := m) (by omega) (n := n) (a := l) (b := fs)) 0
    have hc0 := how.cell (k := 0) (some_at0 (by rw [timesL_len]; omega))
    have hf0 := how.fz 0
    have hMod := mod_lt' (a := at0 (timesL m n l fs) 0 + at0 xs k) (show 0 < m by omega)
    have Hn := Lib.hid how
    clear how
    go_wp2_with fail
    have e1 : IntKind.i64.wrap (at0 (timesL m n l fs) 0 + at0 xs k) = at0 (timesL m n l fs) 0 + at0 xs k := IntWalk.i64_in _ (by omega)
    have e2 : (at0 (timesL m n l fs) 0 + at0 xs k).tmod m = (at0 (timesL m n l fs) 0 + at0 xs k) % m := Int.tmod_eq_emod_of_nonneg (by omega)
    go_still_tail 12, (by kernel_rfl)
    change wpList _ _ _ _ _ w2.drew
    go_wp2
    have h2 := OwI.put Hn.out 0 ((at0 (timesL m n l fs) 0 + at0 xs k) % m)
    rw [show (timesL m n l fs).set 0 ((at0 (timesL m n l fs) 0 + at0 xs k) % m) = addc m (at0 xs k) (timesL m n l fs) from rfl, ← HS.out] at h2
    exact ⟨⟨k, _, _, by omega, by go_num, rfl, h2.mono hBs, (below_put B2 (by omega) _).drew⟩, by simp [intOf]⟩
   ·obtain rfl : j = 0 := by omega
    rw [List.drop_zero] at hO
    go_wp2
    go_ret
    exact ⟨_, rfl, hO, hB⟩

end Go.Proofs.YtfpphfjlpgefaaaGreat

/- Inverses, reversions and integrals of series: the reference's functions, and the program's integral. -/
namespace Go.Proofs.YtfpphfjlpgefaaaGreat
open Go.RowKit

theorem l02Reverse_c (m d : Int) (n : Nat) (v : Value) (xs : List Int) (w : World) (hd : d + 1 = (n : Int)) (hv : RdI w v xs) (hl : xs.length = n) (h1 : 2 ≤ n) (hn : n ≤ 1000) (hm : 2 ≤ m) (hm' : m ≤ 10000) (hx : ∀ x ∈ xs, 0 ≤ x ∧ x < m) :
  Calls Tryz.prog 178 #[.int .i64 m, v, .int .i64 d] w fun e w' => ∃ v', e = .returned v' ∧ OwI w' w.heap.size v' (revL m n xs) ∧ Below w.heap.size w w' := by
 subst hl
 obtain ⟨o, c, rfl, hmx, -⟩ := id hv
 unfold maxLen at hmx
 obtain ⟨bx, fx, rfl, hcx⟩ := hv.cells (by omega)
 have cx : w.cell? ⟨bx, fx + 1, none⟩ = some (.int .i64 (at0 xs 1)) := hcx 1 _ (some_at0 (by omega))
 have lx := cell_lt cx
 have hxr := at0_range (by omega) hx 1
 obtain ⟨u, hu⟩ : ∃ u, u = invM m (at0 xs 1) := ⟨_, rfl⟩
 have hur : 0 ≤ u ∧ u < m := by rw [hu]; exact invM_range (by omega) _
 have HU := Lib.hid hu
 clear hcx hu
 have i1 : (1 : Int) < (xs.length : Int) := by omega
 have i2 : 1 < xs.length := by omega
 go_enter Tryz.func178, Tryz.ntmps178
 go_wp2_with (first | (at_make; go_loud (refine mkI _ rfl _ _ rfl _ _ _ xs.length rfl rfl rfl (by omega) ?_; intro w1 hown hb hs1; have cx1 := keep_cell hb (nl _) cx; have hc0 := hown.cell (k := 1) (rep_get xs.length 1 0 (by omega)); have hf0 := hown.fz 1; have Hown := Lib.hid hown; clear hown; have Hs1 := Lib.hid hs1; clear hs1)) | (go_at_call 120; refine (l01Inv_c m (at0 xs 1) _ hm (by omega) (by omega) (by omega)).mono ?_; rw [← HU.out]; rintro e w' ⟨rfl, rfl⟩))
 have hOz := Hown.out.put 1 u
 have hbz := below_put hb (g := w.heap.size) (k := 1) (nl _) (.int .i64 u)
 rw [HU.out, rep_set1, ← HU.out] at hOz
 clear hc0 hf0 Hown cx1 Hs1 hb
 generalize w1.setCell ⟨w.heap.size, 1, none⟩ (.int .i64 u) = w2 at hOz hbz ⊢
 go_loopw [9, 10] (fun i _ wr => ∃ k : Nat, k + 2 ≤ xs.length ∧ i = .int .i64 ((k : Int) + 2) ∧ OwI wr w.heap.size (.slice (some ⟨w.heap.size, 0, none⟩) xs.length xs.length) (revTo m xs.length xs (k + 1)) ∧ Below w.heap.size w wr) (fun i _ _ => xs.length - (intOf i).toNat)
 case atStart => exact ⟨0, by omega, by go_num, hOz, hbz⟩
 case round =>
  clear hOz hbz
  obtain ⟨k, hk, rfl, hO, hB⟩ := hrel
  have hBs := hB.size
  by_cases hlt : k + 2 < xs.length
  ·have i3 : (0 : Int) ≤ (k : Int) + 2 := by omega
   have i4 : (k : Int) + 2 ≤ d := by omega
   have i5 : (k : Int) + 2 < (xs.length : Int) := by omega
   have i6 : ((k : Int) + 2).toNat = k + 2 := by omega
   have i7 : (k : Int) + 2 < ((k + 3 : Nat) : Int) := by omega
   have HS := Lib.hid (rev_step (m := m) (show 0 < m by omega) (n := xs.length) (k := k) (a := xs) hlt)
   have HN := Lib.hid (show (revTo m xs.length xs (k + 1)).set (k + 2) ((-(at0 (horn m xs.length (revTo m xs.length xs (k + 1)) xs) (k + 2)) * u) % m) = revTo m xs.length xs (k + 1 + 1) by rw [HU.out]; rfl)
   have HLl := Lib.hid (revTo_len m xs.length xs (k + 1))
   have HRl := Lib.hid (revTo_range (m := m) (show 0 < m by omega) xs.length xs (k + 1))
   rw [← HU.out] at HS
   obtain ⟨q, hq⟩ : ∃ q, q = horn m (k + 3) (revTo m xs.length xs (k + 1)) (xs.take (k + 3)) := ⟨_, rfl⟩
   have HQ := Lib.hid hq
   have hql : q.length = k + 3 := by rw [hq]; exact horn_len _ _ _ _
   have hqr : 0 ≤ at0 q (k + 2) ∧ at0 q (k + 2) < m := at0_range (by omega) (by rw [hq]; exact horn_range (by omega)) _
   rw [← hq] at HS
   have HN2 := Lib.hid (show (revTo m xs.length xs (k + 1)).set (k + 2) ((m - at0 q (k + 2)) * u % m) = revTo m xs.length xs (k + 1 + 1) by rw [HS.out]; exact HN.out)
   clear hq HN HS
   have m0 : (m == 0) = false := by simp; omega
   have m1 : ¬ m = 0 := by omega
   have hp := Int.mul_nonneg (show 0 ≤ m - at0 q (k + 2) by omega) hur.1
   have hp2 : (m - at0 q (k + 2)) * u ≤ 10000 * 10000 := Int.mul_le_mul (by omega) (by omega) hur.1 (by omega)
   have e1 : IntKind.i64.wrap (m - at0 q (k + 2)) = m - at0 q (k + 2) := IntWalk.i64_in _ (by omega)
   have e2 : IntKind.i64.wrap ((m - at0 q (k + 2)) * u) = (m - at0 q (k + 2)) * u := IntWalk.i64_in _ (by omega)
   have e3 : ((m - at0 q (k + 2)) * u).tmod m = (m - at0 q (k + 2)) * u % m := Int.tmod_eq_emod_of_nonneg (by omega)
   go_wp2_with (go_at_call 100; refine (l02Compose_c m _ (k + 3) _ _ xs (revTo m xs.length xs (k + 1)) _ (by omega) (hv.below hB (nl _)) hO.rd (by omega) (by omega) (by omega) hm hm' hx HRl.out).mono ?_; rw [← HQ.out]; rintro e w3 ⟨vp, rfl, hop, hb3⟩; obtain ⟨op, cp, rfl⟩ := hop.shapeN (n := k + 3) hql; obtain ⟨gp, rfl, hgp, hgp'⟩ := hop.row (by omega); have hcv := hop.cell (k := k + 2) (some_at0 (show k + 2 < q.length by omega)); have hO3 := hO.below hb3; have hB3 := hB.trans (hb3.mono hBs); have hc9 := hO3.cell (k := k + 2) (some_at0 (show k + 2 < (revTo m xs.length xs (k + 1)).length by rw [HLl.out]; omega)); have hf9 := hO3.fz (k + 2); have Hn := Lib.hid hO3; clear hO3 hop)
   have hOn := Hn.out.put (k + 2) ((m - at0 q (k + 2)) * u % m)
   rw [HN2.out] at hOn
   have hbn := below_put hB3 (g := w.heap.size) (k := k + 2) (nl _) (.int .i64 ((m - at0 q (k + 2)) * u % m))
   exact ⟨⟨k + 1, by omega, by go_num, by first | exact hOn | exact hOn.drewN 1, by first | exact hbn | exact hbn.drew⟩, by simp [intOf]; omega⟩
  ·have hk' : xs.length = k + 2 := by omega
   rw [revP_end hk'] at hO
   have i1 : ¬ (k : Int) + 2 ≤ d := by omega
   clear hk'
   go_wp2
   go_ret
   exact ⟨_, rfl, hO, hB⟩

theorem l02Inverse_c (m d : Int) (n : Nat) (v : Value) (xs : List Int) (w : World) (hd : d + 1 = (n : Int)) (hv : RdI w v xs) (hl : xs.length = n) (h1 : 1 ≤ n) (hn : n ≤ 1000) (hm : 2 ≤ m) (hm' : m ≤ 10000) (hx : ∀ x ∈ xs, 0 ≤ x ∧ x < m) :
  Calls Tryz.prog 208 #[.int .i64 m, v, .int .i64 d] w fun e w' => ∃ v', e = .returned v' ∧ OwI w' w.heap.size v' (invS m n xs) ∧ Below w.heap.size w w' := by
 subst hl
 obtain ⟨o, c, rfl, hmx, -⟩ := id hv
 unfold maxLen at hmx
 obtain ⟨bx, fx, rfl, hcx⟩ := hv.cells (by omega)
 have cx : w.cell? ⟨bx, fx, none⟩ = some (.int .i64 (at0 xs 0)) := hcx 0 _ (some_at0 (by omega))
 have hxr := at0_range (by omega) hx 0
 obtain ⟨u, hu⟩ : ∃ u, u = invM m (at0 xs 0) := ⟨_, rfl⟩
 have hur : 0 ≤ u ∧ u < m := by rw [hu]; exact invM_range (by omega) _
 have HU := Lib.hid hu
 clear hcx hu
 have i0 : (0 : Int) < (xs.length : Int) := by omega
 have i2 : 0 < xs.length := by omega
 go_enter Tryz.func208, Tryz.ntmps208
 go_wp2_with (go_at_call 120; refine (l01Inv_c m (at0 xs 0) _ hm (by omega) (by omega) (by omega)).mono ?_; rw [← HU.out]; rintro e w' ⟨rfl, rfl⟩)
 have O1 := OwI.lit w [u] (by simp [maxLen])
 simp at O1
 have HG0 := Lib.hid (show [u] = invG m xs 0 by rw [HU.out]; rfl)
 rw [HG0.out] at O1
 have B1 : Below w.heap.size w (w.alloc (.cells #[.int .i64 u] 2)) := bZ
 generalize w.alloc (.cells #[.int .i64 u] 2) = w1 at O1 B1 ⊢
 go_loopw [8, 9, 10, 11] (fun so i _ _ wr => ∃ (k : Nat) (ov : Option Addr) (cv : Nat), k + 1 ≤ xs.length ∧ i = .int .i64 ((k : Int) + 1) ∧ so = .slice ov (k + 1) cv ∧ OwI wr w.heap.size (.slice ov (k + 1) cv) (invG m xs k) ∧ Below w.heap.size w wr) (fun _ i _ _ _ => xs.length - (intOf i).toNat)
 case atStart => exact ⟨0, _, _, by omega, by go_num, rfl, O1, B1⟩
 case round =>
  clear O1 B1
  obtain ⟨k, ov, cv, hk, rfl, rfl, hO, hB⟩ := hrel
  have hBs := hB.size
  have HLg := Lib.hid (invG_len m xs k)
  by_cases hlt : k + 1 < xs.length
  ·have i4 : (k : Int) + 1 ≤ d := by omega
   obtain ⟨gv, rfl, hgv, hgv'⟩ := hO.row (by omega)
   have hvr := hv.below hB (nl _)
   go_wp2_with fail
   go_loopw [10, 11] (fun s i w2 => ∃ j : Nat, j ≤ k + 1 ∧ s = .int .i64 (sumTo m xs (invG m xs k) (k + 1) j) ∧ i = .int .i64 ((j : Int) + 1) ∧ ∃ e, w2 = wr.drewN e) (fun _ i _ => k + 2 - (intOf i).toNat)
   case atStart => exact ⟨0, by omega, by simp [sumTo, sumN], by go_num, 0, rfl⟩
   case round =>
    obtain ⟨j, hj, rfl, rfl, e, rfl⟩ := hrel
    by_cases hjl : j < k + 1
    ·have i5 : (j : Int) + 1 ≤ (k : Int) + 1 := by omega
     have i6 : (j : Int) + 1 < (xs.length : Int) := by omega
     have i7 : (0 : Int) ≤ (j : Int) + 1 := by omega
     have i8 : ((j : Int) + 1).toNat = j + 1 := by omega
     have cj := hvr.cell0 (some_at0 (show j + 1 < xs.length by omega))
     have cg := hO.cell (k := k + 1 - (j + 1)) (some_at0 (show k + 1 - (j + 1) < (invG m xs k).length by rw [HLg.out]; omega))
     have hxj := at0_range (by omega) hx (j + 1)
     have hgj := at0_range (by omega) (invG_range (m := m) (show 0 < m by omega) xs k) (k + 1 - (j + 1))
     have hsr := sumTo_range (show 0 < m by omega) xs (invG m xs k) (k + 1) j
     have HS := Lib.hid (sumTo_step (m := m) (a := xs) (b := invG m xs k) (n := k + 1) (i := j))
     obtain ⟨p, hp0⟩ : ∃ p, p = k + 1 - (j + 1) := ⟨_, rfl⟩
     rw [← hp0] at cg hgj HS
     have d0 : (k : Int) + 1 - ((j : Int) + 1) = (p : Int) := by omega
     have d1 : (0 : Int) ≤ (p : Int) := by omega
     have d2 : (p : Int) < ((k + 1 : Nat) : Int) := by omega
     have d3 : (p : Int) < (k : Int) + 1 := by omega
     have d4 : IntKind.i64.wrap (p : Int) = (p : Int) := IntWalk.i64_in _ (by omega)
     have HP := Lib.hid hp0
     clear hp0
     generalize at0 xs (j + 1) = x at cj hxj HS
     generalize at0 (invG m xs k) p = y at cg hgj HS
     generalize sumTo m xs (invG m xs k) (k + 1) j = s at hsr HS ⊢
     have hp := Int.mul_nonneg hxj.1 hgj.1
     have hp2 : x * y ≤ 10000 * 10000 := Int.mul_le_mul (by omega) (by omega) hgj.1 (by omega)
     have m0 : (m == 0) = false := by simp; omega
     have m1 : ¬ m = 0 := by omega
     have e1 : IntKind.i64.wrap (x * y) = x * y := IntWalk.i64_in _ (by omega)
     have e2 : IntKind.i64.wrap (s + x * y) = s + x * y := IntWalk.i64_in _ (by omega)
     have e3 : (s + x * y).tmod m = (s + x * y) % m := Int.tmod_eq_emod_of_nonneg (by omega)
     go_wp2_with fail
     go_quiet (fail)
     go_wp2
     exact ⟨⟨j + 1, by omega, by rw [← HS.out], by go_num, e + nq, by first | rfl | rw [World.drewN_drewN]⟩, by simp [intOf]; omega⟩
    ·obtain rfl : j = k + 1 := by omega
     have i5 : ¬ ((k + 1 : Nat) : Int) + 1 ≤ (k : Int) + 1 := by omega
     have hsr := sumTo_range (show 0 < m by omega) xs (invG m xs k) (k + 1) (k + 1)
     have HS := Lib.hid (show invG m xs k ++ [(m - sumTo m xs (invG m xs k) (k + 1) (k + 1)) * u % m] = invG m xs (k + 1) by rw [HU.out, inv_step (nl _) (.inl rfl)]; rfl)
     generalize sumTo m xs (invG m xs k) (k + 1) (k + 1) = s at hsr HS ⊢
     have hp := Int.mul_nonneg (show 0 ≤ m - s by omega) hur.1
     have hp2 : (m - s) * u ≤ 10000 * 10000 := Int.mul_le_mul (by omega) (by omega) hur.1 (by omega)
     have m0 : (m == 0) = false := by simp; omega
     have m1 : ¬ m = 0 := by omega
     have e1 : IntKind.i64.wrap (m - s) = m - s := IntWalk.i64_in _ (by omega)
     have e2 : IntKind.i64.wrap ((m - s) * u) = (m - s) * u := IntWalk.i64_in _ (by omega)
     have e3 : ((m - s) * u).tmod m = (m - s) * u % m := Int.tmod_eq_emod_of_nonneg (by omega)
     have Hd : Below w.heap.size w (wr.drewN e) := (by (repeat (first | exact bR _ _ | (refine bS ?_ _) | (refine bA ?_ _) | (refine bN ?_ _) | (refine bD ?_) | (refine bT ?_ hB))))
     have HdO := hO.drewN e
     have Hds := Hd.size
     generalize wr.drewN e = w2 at Hd HdO Hds ⊢
     go_wp2_with (at_builtin; refine apI w2 rfl _ _ rfl w.heap.size (.slice (some ⟨gv, 0, none⟩) (k + 1) cv) (invG m xs k) rfl HdO ((m - s) * u % m) rfl (by rw [HLg.out]; omega) (by omega) ?_; intro v' w4 hO3 hgr hb3 hlt3; clear hgr)
     rw [HS.out] at hO3
     obtain ⟨o4, c4, rfl⟩ := hO3.shapeN (n := k + 1 + 1) (invG_len _ _ _)
     exact ⟨⟨k + 1, _, _, by omega, by go_num, rfl, hO3, Hd.trans (hb3.mono (nl _))⟩, by simp [intOf]; omega⟩
  ·have hk' : k = xs.length - 1 := by omega
   have HI := Lib.hid (show invG m xs k = invS m xs.length xs by rw [hk']; rfl)
   have i4 : ¬ (k : Int) + 1 ≤ d := by omega
   rw [HI.out] at hO
   clear hk'
   go_wp2
   go_ret
   exact ⟨_, rfl, hO, hB⟩

end Go.Proofs.YtfpphfjlpgefaaaGreat
