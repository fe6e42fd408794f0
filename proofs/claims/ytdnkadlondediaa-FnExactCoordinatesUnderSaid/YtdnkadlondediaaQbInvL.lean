/- Lemmas of InvL. -/
import Derived.Test.YtdnkadlondediaaQbPut
import Derived.Test.YtdnkadlondediaaQbG5
import Derived.Test.YtdnkadlondediaaQbG1
set_option linter.unusedSimpArgs false
set_option linter.unusedVariables false
namespace Go.Proofs.Ytdnkadlondediaa
open Go.RowKit

set_option maxHeartbeats 1000000 in
set_option maxRecDepth 100000 in
theorem variable_c (m d : Int) (n : Nat) (w : World) (hd : d + 1 = n) (h2 : 2 ≤ n) (hn : n ≤ 1048576) :
    Calls Try.prog 130 #[.int .i64 m, .int .i64 d] w fun e w' => SVEnd w w' m (varL n) e := by
  go_enter Try.func130, Try.ntmps130
  go_wp2_with fail
  have R0 := RB2.mk1 w (.int .i64 0) (.slice none 0 0) 34
  have B0 : Below w.heap.size w (w.alloc (.cells #[.int .i64 0, .slice none 0 0] 34)) := (by (repeat (first | exact Below.refl _ _ | (refine Below.setCell ?_ (by first | (simp; done) | (simp; omega) | omega) _) | (refine Below.alloc ?_ (by first | (simp; done) | (simp; omega) | omega) _) | (refine below_drewN ?_ _) | (refine Below.drew ?_))))
  generalize w.alloc (.cells #[.int .i64 0, .slice none 0 0] 34) = w0 at R0 B0 ⊢
  have hzl : w.heap.size < w0.heap.size := R0.1.lt
  go_wp2_with fail
  refine (zero_c m d n _ hd hn).mono ?_
  rintro e w1 ⟨vz, rfl, how, hb⟩
  obtain ⟨oz, cz, rfl⟩ := how.shapeN (n := n) (by simp)
  obtain ⟨g, rfl, hgl, hgl'⟩ := how.row (by omega)
  (have R1 := R0.below hb (Nat.le_refl _); have B1 := B0.trans (hb.mono B0.size))
  have hb1 := hb.size
  have lR := R1.1.lt
  have hc0 := how.cell (k := 1) (rep_get n 1 0 (by omega))
  have hf0 := how.fz 1
  have Hn := Lib.hid how
  clear how
  have i1 : 1 < n := by omega
  have i2 : (1 : Int) < (n : Int) := by omega
  have hgn : g ≠ w1.heap.size := by omega
  have hgr : g ≠ w.heap.size := by omega
  obtain ⟨⟨r0, r1⟩, rf⟩ := id R1
  go_wp2
  refine bodyPost_ret (v := .agg #[.int .i64 m, .slice (some ⟨g, 0, none⟩) n cz]) (by simp [results, Try.results130, go_sem, r0, r1, lR, hgn, hgr]) rfl ⟨_, rfl, ?_, ?_⟩
  · exact ((((Hn.out.put 1 1).low (by first | (simp; done) | (simp; omega) | omega) _).low (by first | (simp; done) | (simp; omega) | omega) _).alloc _).mono (by first | (simp; done) | (simp; omega) | omega)
  · (repeat (first | exact Below.refl _ _ | (refine Below.setCell ?_ (by first | (simp; done) | (simp; omega) | omega) _) | (refine Below.alloc ?_ (by first | (simp; done) | (simp; omega) | omega) _) | (refine below_drewN ?_ _) | (refine Below.drew ?_) | (refine Below.trans ?_ (Below.mono B1 (by first | (simp; done) | (simp; omega) | omega)))))

theorem varTo_0 (n : Nat) (m : Int) (t : List (List Int)) : List.replicate n (0 : Int) = invTo m n t 0 := rfl

set_option maxHeartbeats 4000000 in
set_option maxRecDepth 100000 in
theorem inverseP_c (m : Int) (n : Nat) (v : Value) (t : List (List Int)) (w : World) (hv : RdT w v t) (h1 : 2 ≤ n) (hn : n ≤ 1000) (hm : 2 ≤ m) (hm' : m ≤ 10000) (ht : PlaT m n t) :
    Calls Try.prog 150 #[.agg #[.int .i64 m, v]] w fun e w' => SVEnd w w' m (invL m n t) e := by
  obtain ⟨o, c, rfl, hmt, -⟩ := id hv
  have hv' : RdT w (.slice o n c) t := by rw [ht.1] at hv; exact hv
  rw [ht.1] at hmt ⊢
  have hml := hmt.1
  have HT := Lib.hid ht
  clear ht hv
  unfold maxLen at hmt
  go_enter Try.func150, Try.ntmps150
  go_wp2_with fail
  (have X0 := ((RB2.mk1 w  (.int .i64 m) (.slice o n c) 32).1).below (w' := ((w.alloc (.cells #[.int .i64 m, .slice o n c] 32)).alloc (.cells #[.int .i64 0, .slice none 0 0] 34))) (by (repeat (first | exact Below.refl _ _ | (refine Below.setCell ?_ (by first | (simp; done) | (simp; omega) | omega) _) | (refine Below.alloc ?_ (by first | (simp; done) | (simp; omega) | omega) _) | (refine below_drewN ?_ _) | (refine Below.drew ?_)))) (Nat.le_refl _); have R0 := ((RB2.mk2 w (.cells #[.int .i64 m, .slice o n c] 32) (.int .i64 0) (.slice none 0 0) 34)).below (w' := ((w.alloc (.cells #[.int .i64 m, .slice o n c] 32)).alloc (.cells #[.int .i64 0, .slice none 0 0] 34))) (by (repeat (first | exact Below.refl _ _ | (refine Below.setCell ?_ (by first | (simp; done) | (simp; omega) | omega) _) | (refine Below.alloc ?_ (by first | (simp; done) | (simp; omega) | omega) _) | (refine below_drewN ?_ _) | (refine Below.drew ?_)))) (Nat.le_refl _); have B0 : Below w.heap.size w ((w.alloc (.cells #[.int .i64 m, .slice o n c] 32)).alloc (.cells #[.int .i64 0, .slice none 0 0] 34)) := (by (repeat (first | exact Below.refl _ _ | (refine Below.setCell ?_ (by first | (simp; done) | (simp; omega) | omega) _) | (refine Below.alloc ?_ (by first | (simp; done) | (simp; omega) | omega) _) | (refine below_drewN ?_ _) | (refine Below.drew ?_)))); have hv'0 := hv'.below (w' := ((w.alloc (.cells #[.int .i64 m, .slice o n c] 32)).alloc (.cells #[.int .i64 0, .slice none 0 0] 34))) (by (repeat (first | exact Below.refl _ _ | (refine Below.setCell ?_ (by first | (simp; done) | (simp; omega) | omega) _) | (refine Below.alloc ?_ (by first | (simp; done) | (simp; omega) | omega) _) | (refine below_drewN ?_ _) | (refine Below.drew ?_)))) (Nat.le_refl _); generalize (w.alloc (.cells #[.int .i64 m, .slice o n c] 32)).alloc (.cells #[.int .i64 0, .slice none 0 0] 34) = w0 at X0 R0 B0 hv'0 ⊢)
  have hzl : w.heap.size + 1 < w0.heap.size := R0.1.lt
  go_cut [3] (fun sb u => ∃ (wz : World) (b : Nat) (ot : Option Addr) (ct : Nat), wz = u ∧ sb = .pointer (some ⟨b, 0, none⟩) ∧ w0.heap.size ≤ b ∧ RB2 u b (.int .i64 m) (.slice ot n ct) ∧ OwI u w0.heap.size (.slice ot n ct) (varL n) ∧ (∀ k, (Value.slice ot n ct).ownBlock = some k → k ≠ b) ∧ Below w0.heap.size w0 u)
  case first =>
    have hd0 : Below w0.heap.size w0 w0.drew := (Below.refl _ _).drew
    have hsd0 := hd0.size
    have hlb_X0 := X0.lt
    obtain ⟨q0_X0_0, q0_X0_1⟩ := X0.below (Below.refl w0.heap.size w0) (Nat.le_refl _)
    have hne0_X0 : w0.heap.size ≠ w.heap.size := by omega
    go_region_held3 (fun w' => w'.cell? ⟨w.heap.size, 0, none⟩ = some (.int .i64 m) ∧ w'.cell? ⟨w.heap.size, 1, none⟩ = some (.slice o n c)) (go_keep)
      (first
        | (go_at_call 71; refine (degreeP_c m o n c _ hml).mono ?_; rintro e wd1 ⟨rfl, hbd1⟩; have hd1 : Below w0.heap.size w0 wd1 := (by (repeat (first | exact Below.refl _ _ | (refine Below.setCell ?_ (by first | (simp; done) | (simp; omega) | omega) _) | (refine Below.alloc ?_ (by first | (simp; done) | (simp; omega) | omega) _) | (refine below_drewN ?_ _) | (refine Below.drew ?_) | (refine Below.trans ?_ (Below.mono hbd1 (by first | (simp; done) | (simp; omega) | omega)))))); have hsd1 := hd1.size; have hsz1_ := hbd1.size; (try simp at hsz1_); obtain ⟨q1_X0_0, q1_X0_1⟩ := X0.below hd1 (Nat.le_refl _); have hne1_X0 : wd1.heap.size ≠ w.heap.size := (by omega); (try (have RZ := RZ.below hbd1 (Nat.le_refl _))); (try (have RZ := (show RB2 (w0.alloc (.cells #[.int .i64 0, .slice none 0 0] 34)).drew w0.heap.size (.int .i64 0) (.slice none 0 0) from RB2.mk1 w0 (.int .i64 0) (.slice none 0 0) _).below hbd1 (Nat.le_refl _))); (try (obtain ⟨⟨z1_0, z1_1⟩, zf1⟩ := id RZ)))
        | (go_at_call 130; refine (variable_c m ((n : Int) - 1) n _ (by omega) h1 (by omega)).mono ?_; rintro e wd2 ⟨vz2, rfl, hod2, hbd2⟩; obtain ⟨ot, ct, rfl⟩ := hod2.shapeN (n := n) (varL_len _); have hd2 : Below w0.heap.size w0 wd2 := (by (repeat (first | exact Below.refl _ _ | (refine Below.setCell ?_ (by first | (simp; done) | (simp; omega) | omega) _) | (refine Below.alloc ?_ (by first | (simp; done) | (simp; omega) | omega) _) | (refine below_drewN ?_ _) | (refine Below.drew ?_) | (refine Below.trans ?_ (Below.mono hbd1 (by first | (simp; done) | (simp; omega) | omega))) | (refine Below.trans ?_ (Below.mono hbd2 (by first | (simp; done) | (simp; omega) | omega)))))); have hsd2 := hd2.size; have hsz2_ := hbd2.size; (try simp at hsz2_); obtain ⟨q2_X0_0, q2_X0_1⟩ := X0.below hd2 (Nat.le_refl _); have hne2_X0 : wd2.heap.size ≠ w.heap.size := (by omega); (try (have RZ := RZ.below hbd2 (Nat.le_refl _))); (try (have RZ := (show RB2 (wd1.alloc (.cells #[.int .i64 0, .slice none 0 0] 34)) wd1.heap.size (.int .i64 0) (.slice none 0 0) from RB2.mk1 wd1 (.int .i64 0) (.slice none 0 0) _).below hbd2 (Nat.le_refl _))); (try (obtain ⟨⟨z2_0, z2_1⟩, zf2⟩ := id RZ))))
    all_goals
      go_wp2_with fail
      go_meet
      have hL := hod2.lt
      refine ⟨_, _, ot, ct, rfl, rfl, ?_, ?_, ?_, ?_, ?_⟩
      · first | omega | (simp; done) | (simp; omega)
      · first | exact RB2.mk1 _ _ _ _ | exact RB2.put RZ _ _
      · first | exact (hod2.alloc _).mono (by first | (simp; done) | (simp; omega) | omega) | exact ((hod2.low (by first | (simp; done) | (simp; omega) | omega) _).low (by first | (simp; done) | (simp; omega) | omega) _).mono (by first | (simp; done) | (simp; omega) | omega)
      · intro k hk; have hq := hL k hk; first | omega | (simp at hq; omega)
      · (repeat (first | exact Below.refl _ _ | (refine Below.setCell ?_ (by first | (simp; done) | (simp; omega) | omega) _) | (refine Below.alloc ?_ (by first | (simp; done) | (simp; omega) | omega) _) | (refine below_drewN ?_ _) | (refine Below.drew ?_) | (refine Below.trans ?_ (Below.mono hbd1 (by first | (simp; done) | (simp; omega) | omega))) | (refine Below.trans ?_ (Below.mono hbd2 (by first | (simp; done) | (simp; omega) | omega)))))
  case rest =>
  obtain ⟨w1, bt, ot, ct, rfl, rfl, hbW, O, how, hneb, hb⟩ := hcut
  obtain ⟨gt, rfl, hgt, hgt'⟩ := how.row (by omega)
  have hgtb := hneb gt rfl
  clear hneb
  (have X1 := X0.below hb (Nat.le_refl _); have R1 := R0.below hb (Nat.le_refl _); have hv'1 := hv'0.below hb (Nat.le_refl _); have B1 := B0.trans (hb.mono B0.size))
  have OT1 := O.1
  have hrt1 := how.rd
  clear O how
  have lT := OT1.lt
  have hb1s := hb.size
  obtain ⟨x0, x1⟩ := id X1
  go_wp2_with fail
  clear x0 x1
  go_cut [4] (fun sb u => ∃ (wz : World) (b : Nat) (oz : Option Addr) (cz : Nat), wz = u ∧ sb = .pointer (some ⟨b, 0, none⟩) ∧ w1.heap.size ≤ b ∧ RB2 u b (.int .i64 m) (.slice oz n cz) ∧ OwI u w1.heap.size (.slice oz n cz) (List.replicate n 0) ∧ (∀ k, (Value.slice oz n cz).ownBlock = some k → k ≠ b) ∧ Below w1.heap.size w1 u)
  case first =>
    have hd0 : Below w1.heap.size w1 w1.drew := (Below.refl _ _).drew
    have hsd0 := hd0.size
    have hlb_X1 := X1.lt
    obtain ⟨q0_X1_0, q0_X1_1⟩ := X1.below (Below.refl w1.heap.size w1) (Nat.le_refl _)
    have hne0_X1 : w1.heap.size ≠ w.heap.size := by omega
    go_region_held3 (fun w' => w'.cell? ⟨w.heap.size, 0, none⟩ = some (.int .i64 m) ∧ w'.cell? ⟨w.heap.size, 1, none⟩ = some (.slice o n c)) (go_keep)
      (first
        | (go_at_call 71; refine (degreeP_c m o n c _ hml).mono ?_; rintro e wd1 ⟨rfl, hbd1⟩; have hd1 : Below w1.heap.size w1 wd1 := (by (repeat (first | exact Below.refl _ _ | (refine Below.setCell ?_ (by first | (simp; done) | (simp; omega) | omega) _) | (refine Below.alloc ?_ (by first | (simp; done) | (simp; omega) | omega) _) | (refine below_drewN ?_ _) | (refine Below.drew ?_) | (refine Below.trans ?_ (Below.mono hbd1 (by first | (simp; done) | (simp; omega) | omega)))))); have hsd1 := hd1.size; have hsz1_ := hbd1.size; (try simp at hsz1_); obtain ⟨q1_X1_0, q1_X1_1⟩ := X1.below hd1 (Nat.le_refl _); have hne1_X1 : wd1.heap.size ≠ w.heap.size := (by omega); (try (have RZ := RZ.below hbd1 (Nat.le_refl _))); (try (have RZ := (show RB2 (w1.alloc (.cells #[.int .i64 0, .slice none 0 0] 34)).drew w1.heap.size (.int .i64 0) (.slice none 0 0) from RB2.mk1 w1 (.int .i64 0) (.slice none 0 0) _).below hbd1 (Nat.le_refl _))); (try (obtain ⟨⟨z1_0, z1_1⟩, zf1⟩ := id RZ)))
        | (go_at_call 95; refine (zero_c m ((n : Int) - 1) n _ (by omega) (by omega)).mono ?_; rintro e wd2 ⟨vz2, rfl, hod2, hbd2⟩; obtain ⟨oz, cz, rfl⟩ := hod2.shapeN (n := n) (by simp); have hd2 : Below w1.heap.size w1 wd2 := (by (repeat (first | exact Below.refl _ _ | (refine Below.setCell ?_ (by first | (simp; done) | (simp; omega) | omega) _) | (refine Below.alloc ?_ (by first | (simp; done) | (simp; omega) | omega) _) | (refine below_drewN ?_ _) | (refine Below.drew ?_) | (refine Below.trans ?_ (Below.mono hbd1 (by first | (simp; done) | (simp; omega) | omega))) | (refine Below.trans ?_ (Below.mono hbd2 (by first | (simp; done) | (simp; omega) | omega)))))); have hsd2 := hd2.size; have hsz2_ := hbd2.size; (try simp at hsz2_); obtain ⟨q2_X1_0, q2_X1_1⟩ := X1.below hd2 (Nat.le_refl _); have hne2_X1 : wd2.heap.size ≠ w.heap.size := (by omega); (try (have RZ := RZ.below hbd2 (Nat.le_refl _))); (try (have RZ := (show RB2 (wd1.alloc (.cells #[.int .i64 0, .slice none 0 0] 34)) wd1.heap.size (.int .i64 0) (.slice none 0 0) from RB2.mk1 wd1 (.int .i64 0) (.slice none 0 0) _).below hbd2 (Nat.le_refl _))); (try (obtain ⟨⟨z2_0, z2_1⟩, zf2⟩ := id RZ))))
    all_goals
      go_wp2_with fail
      go_meet
      have hL := hod2.lt
      refine ⟨_, _, oz, cz, rfl, rfl, ?_, ?_, ?_, ?_, ?_⟩
      · first | omega | (simp; done) | (simp; omega)
      · first | exact RB2.mk1 _ _ _ _ | exact RB2.put RZ _ _
      · first | exact (hod2.alloc _).mono (by first | (simp; done) | (simp; omega) | omega) | exact ((hod2.low (by first | (simp; done) | (simp; omega) | omega) _).low (by first | (simp; done) | (simp; omega) | omega) _).mono (by first | (simp; done) | (simp; omega) | omega)
      · intro k hk; have hq := hL k hk; first | omega | (simp at hq; omega)
      · (repeat (first | exact Below.refl _ _ | (refine Below.setCell ?_ (by first | (simp; done) | (simp; omega) | omega) _) | (refine Below.alloc ?_ (by first | (simp; done) | (simp; omega) | omega) _) | (refine below_drewN ?_ _) | (refine Below.drew ?_) | (refine Below.trans ?_ (Below.mono hbd1 (by first | (simp; done) | (simp; omega) | omega))) | (refine Below.trans ?_ (Below.mono hbd2 (by first | (simp; done) | (simp; omega) | omega)))))
  case rest =>
  obtain ⟨w2, bo, oz, cz, rfl, rfl, hbW, O, how, hneb, hb⟩ := hcut
  obtain ⟨g, rfl, hgl, hgl'⟩ := how.row (by omega)
  have hgb := hneb g rfl
  clear hneb
  have hbq := hb
  (have X2 := X1.below hb (Nat.le_refl _); have R2 := R1.below hb (Nat.le_refl _); have hv'2 := hv'1.below hb (Nat.le_refl _); have B2 := B1.trans (hb.mono B1.size))
  have OT2' := OT1
  have hrt2' := hrt1
  have lO := O.1.lt
  have B2s := B2.size
  rw [varTo_0 n m t] at how
  have HO0 := Lib.hid how
  clear how hb OT1 hrt1
  go_wp2_with fail
  go_loopw [5] (fun i wr => ∃ k : Nat, k + 1 ≤ n ∧ i = .int .i64 ((k : Int) + 1) ∧ OwI wr w1.heap.size (.slice (some ⟨g, 0, none⟩) n cz) (invTo m n t k) ∧ RB2 wr bo (.int .i64 m) (.slice (some ⟨g, 0, none⟩) n cz) ∧ Below w1.heap.size w1 wr) (fun i _ => n - (intOf i).toNat)
  case atStart => exact ⟨0, by omega, by go_num, HO0.out, O, hbq⟩
  case round =>
    clear hbq O HO0 lO B2s
    obtain ⟨k, hk, rfl, hO, OO, hbr⟩ := hrel
    have B1s := B1.size
    have hbrs := hbr.size
    have Br := B1.trans (hbr.mono B1s)
    have Xr := X1.below hbr (Nat.le_refl _)
    have hvr := hv'1.below hbr (Nat.le_refl _)
    have Tr := OT2'.below hbr (Nat.le_refl _)
    have hrtr := hrt2'.below hbr (Nat.le_refl _)
    have Rr := R1.below hbr (Nat.le_refl _)
    have lOr := OO.1.lt
    have lTr := Tr.lt
    have lXr := Xr.lt
    have hBrs := Br.size
    obtain ⟨x0, x1⟩ := id Xr
    go_wp2_with fail
    refine (degreeP_c m o n c _ hml).mono ?_
    rintro e w3 ⟨rfl, hb3⟩
    clear x0 x1
    have hb3s := hb3.size
    have X3 := Xr.below hb3 (Nat.le_refl _)
    have T3 := Tr.below hb3 (Nat.le_refl _)
    have hv3 := hvr.below hb3 (Nat.le_refl _)
    have hrt3 := hrtr.below hb3 (Nat.le_refl _)
    have O3 := OO.below hb3 (Nat.le_refl _)
    have R3 := Rr.below hb3 (Nat.le_refl _)
    have hO3 := hO.below hb3
    have hbr3 := hbr.trans (hb3.mono hbrs)
    have B3 := B1.trans (hbr3.mono B1s)
    have B3s := B3.size
    clear hO OO Xr Tr hvr hrtr Rr hbr Br hb3 lOr lTr lXr
    by_cases hlt : k + 1 < n
    · have i0 : (0 : Int) ≤ (k : Int) + 1 := by omega
      have i1 : (k : Int) + 1 ≤ (n : Int) - 1 := by omega
      have i2 : (k : Int) + 1 < (n : Int) := by omega
      have i3 : ((k : Int) + 1).toNat = k + 1 := by omega
      obtain ⟨pl, hpl⟩ : ∃ pl, pl = putL m n t (varL n) (invTo m n t k) := ⟨_, rfl⟩
      have hplen : pl.length = n := by rw [hpl]; exact putTo_len _ _ _ _ _ _ _
      have hpx : 0 ≤ at0 pl (k + 1) ∧ at0 pl (k + 1) < m := at0_range (by omega) (by rw [hpl]; exact putTo_range (by omega)) _
      have HPL := Lib.hid hpl
      have hwr : IntKind.i64.wrap (-(at0 pl (k + 1))) = -(at0 pl (k + 1)) := IntWalk.i64_in _ (by omega)
      have HS := Lib.hid (show (invTo m n t k).set (k + 1) ((-(at0 pl (k + 1))) % m) = invTo m n t (k + 1) by rw [hpl]; rfl)
      clear hpl
      have HLi := Lib.hid (invTo_len m n t k)
      have HRi := Lib.hid (invTo_range (m := m) (show 0 < m by omega) n t k)
      have lX3 := X3.lt
      have lT3 := T3.lt
      have lO3 := O3.1.lt
      go_wp2_with fail
      have hd0 : Below w3.heap.size w3 w3.drew := (Below.refl _ _).drew
      have hsd0 := hd0.size
      obtain ⟨f0_a, f0_b⟩ := ((X3).below (Below.refl w3.heap.size w3) (Nat.le_refl _))
      obtain ⟨f0_c, f0_d⟩ := ((T3).below (Below.refl w3.heap.size w3) (Nat.le_refl _))
      obtain ⟨f0_e, f0_f⟩ := ((O3.1).below (Below.refl w3.heap.size w3) (Nat.le_refl _))
      have hw0_ := hO3.below hd0
      have hc0_ := hw0_.cell (k := k + 1) (some_at0 (by rw [HLi.out]; omega))
      have hf0_ := hw0_.fz (k + 1)
      refine wp_region_K (S := fun w' => w'.cell? ⟨w.heap.size, 0, none⟩ = some (.int .i64 m) ∧ w'.cell? ⟨w.heap.size, 1, none⟩ = some (.slice o n c) ∧ w'.cell? ⟨bt, 0, none⟩ = some (.int .i64 m) ∧ w'.cell? ⟨bt, 1, none⟩ = some (.slice (some ⟨gt, 0, none⟩) n ct) ∧ w'.cell? ⟨bo, 0, none⟩ = some (.int .i64 m) ∧ w'.cell? ⟨bo, 1, none⟩ = some (.slice (some ⟨g, 0, none⟩) n cz)) [16] (by kernel_rfl) ?_
      have hHeld : (fun w' : World => w'.cell? ⟨w.heap.size, 0, none⟩ = some (.int .i64 m) ∧ w'.cell? ⟨w.heap.size, 1, none⟩ = some (.slice o n c) ∧ w'.cell? ⟨bt, 0, none⟩ = some (.int .i64 m) ∧ w'.cell? ⟨bt, 1, none⟩ = some (.slice (some ⟨gt, 0, none⟩) n ct) ∧ w'.cell? ⟨bo, 0, none⟩ = some (.int .i64 m) ∧ w'.cell? ⟨bo, 1, none⟩ = some (.slice (some ⟨g, 0, none⟩) n cz)) w3.drew := by go_keep
      refine' wpAnyK_takeL (i := 0) (v := _) rfl (by kernel_rfl) (by kernel_rfl) (by kernel_rfl) (by kernel_rfl) (fun _ _ _ h => h) (Or.inl ⟨by rfl, ?yT1⟩) hHeld ?rT1
      case yT1 => (intro w' hSw; (try dsimp only at hSw); go_simp; try with_reducible rfl)
      try simp only [List.getElem_toArray, List.getElem_cons_zero, List.getElem_cons_succ, Act.put, List.setIfInBounds_toArray, List.set_cons_zero, List.set_cons_succ]
      refine' wpAnyK_takeL (i := 1) (v := _) rfl (by kernel_rfl) (by kernel_rfl) (by kernel_rfl) (by kernel_rfl) (fun _ _ _ h => h) (Or.inl ⟨by rfl, ?yT2⟩) hHeld ?rT2
      case yT2 => (intro w' hSw; (try dsimp only at hSw); go_simp; try with_reducible rfl)
      try simp only [List.getElem_toArray, List.getElem_cons_zero, List.getElem_cons_succ, Act.put, List.setIfInBounds_toArray, List.set_cons_zero, List.set_cons_succ]
      refine' wpAnyK_takeL (i := 2) (v := _) rfl (by kernel_rfl) (by kernel_rfl) (by kernel_rfl) (by kernel_rfl) (fun _ _ _ h => h) (Or.inl ⟨by rfl, ?yT3⟩) hHeld ?rT3
      case yT3 => (intro w' hSw; (try dsimp only at hSw); go_simp; try with_reducible rfl)
      try simp only [List.getElem_toArray, List.getElem_cons_zero, List.getElem_cons_succ, Act.put, List.setIfInBounds_toArray, List.set_cons_zero, List.set_cons_succ]
      refine' wpAnyK_takeL (i := 3) (v := _) rfl (by kernel_rfl) (by kernel_rfl) (by kernel_rfl) (by kernel_rfl) (fun _ _ _ h => h) (Or.inl ⟨by rfl, ?yT4⟩) hHeld ?rT4
      case yT4 => (intro w' hSw; (try dsimp only at hSw); go_simp; try with_reducible rfl)
      try simp only [List.getElem_toArray, List.getElem_cons_zero, List.getElem_cons_succ, Act.put, List.setIfInBounds_toArray, List.set_cons_zero, List.set_cons_succ]
      refine' wpAnyK_takeL (i := 4) (v := _) rfl (by kernel_rfl) (by kernel_rfl) (by kernel_rfl) (by kernel_rfl) (fun _ _ _ h => h) (Or.inl ⟨by rfl, ?yT5⟩) hHeld ?rT5
      case yT5 => (intro w' hSw; (try dsimp only at hSw); go_simp; try with_reducible rfl)
      try simp only [List.getElem_toArray, List.getElem_cons_zero, List.getElem_cons_succ, Act.put, List.setIfInBounds_toArray, List.set_cons_zero, List.set_cons_succ]
      refine' wpAnyK_takeL (i := 5) (v := _) rfl (by kernel_rfl) (by kernel_rfl) (by kernel_rfl) (by kernel_rfl) (fun _ _ _ h => h) (Or.inl ⟨by rfl, ?yT6⟩) hHeld ?rT6
      case yT6 => (intro w' hSw; (try dsimp only at hSw); go_simp; try with_reducible rfl)
      try simp only [List.getElem_toArray, List.getElem_cons_zero, List.getElem_cons_succ, Act.put, List.setIfInBounds_toArray, List.set_cons_zero, List.set_cons_succ]
      refine' wpAnyK_takeL (i := 8) (v := _) rfl (by kernel_rfl) (by kernel_rfl) (by kernel_rfl) (by kernel_rfl) (fun _ _ _ h => h) (Or.inl ⟨by rfl, ?yT7⟩) hHeld ?rT7
      case yT7 => (intro w' hSw; (try dsimp only at hSw); go_simp; try with_reducible rfl)
      try simp only [List.getElem_toArray, List.getElem_cons_zero, List.getElem_cons_succ, Act.put, List.setIfInBounds_toArray, List.set_cons_zero, List.set_cons_succ]
      refine' wpAnyK_takeL (i := 12) (v := _) rfl (by kernel_rfl) (by kernel_rfl) (by kernel_rfl) (by kernel_rfl) (fun _ _ _ h => h) (Or.inl ⟨by rfl, ?yT8⟩) hHeld ?rT8
      case yT8 => (intro w' hSw; (try dsimp only at hSw); go_simp; try with_reducible rfl)
      try simp only [List.getElem_toArray, List.getElem_cons_zero, List.getElem_cons_succ, Act.put, List.setIfInBounds_toArray, List.set_cons_zero, List.set_cons_succ]
      refine' wpAnyK_takeL (i := 13) (v := _) rfl (by kernel_rfl) (by kernel_rfl) (by kernel_rfl) (by kernel_rfl) (fun _ _ _ h => h) (Or.inl ⟨by rfl, ?yT9⟩) hHeld ?rT9
      case yT9 => (intro w' hSw; (try dsimp only at hSw); go_simp; try with_reducible rfl)
      try simp only [List.getElem_toArray, List.getElem_cons_zero, List.getElem_cons_succ, Act.put, List.setIfInBounds_toArray, List.set_cons_zero, List.set_cons_succ]
      refine wpAnyK_oneL (i := 6) rfl (by kernel_rfl) (fun K hK => ?_)
      go_simp
      go_at_call 96
      refine (curvesP_c m m n _ _ _ t (varL n) (invTo m n t k) _ ((hv3).below (by (repeat (first | exact Below.refl _ _ | (refine Below.setCell ?_ (by first | (simp; done) | (simp; omega) | omega) _) | (refine Below.alloc ?_ (by first | (simp; done) | (simp; omega) | omega) _) | (refine below_drewN ?_ _) | (refine Below.drew ?_)))) (Nat.le_refl _)) ((hrt3).below (by (repeat (first | exact Below.refl _ _ | (refine Below.setCell ?_ (by first | (simp; done) | (simp; omega) | omega) _) | (refine Below.alloc ?_ (by first | (simp; done) | (simp; omega) | omega) _) | (refine below_drewN ?_ _) | (refine Below.drew ?_)))) (Nat.le_refl _)) ((hO3.rd).below (by (repeat (first | exact Below.refl _ _ | (refine Below.setCell ?_ (by first | (simp; done) | (simp; omega) | omega) _) | (refine Below.alloc ?_ (by first | (simp; done) | (simp; omega) | omega) _) | (refine below_drewN ?_ _) | (refine Below.drew ?_)))) (Nat.le_refl _)) (varL_len _) HLi.out (by omega) (by omega) hm hm' HT.out (varL_range hm _) HRi.out).mono ?_
      rintro e wd1 ⟨vp, rfl, hod1, hbd1⟩
      rw [← HPL.out] at hod1; obtain ⟨op, cp, rfl⟩ := hod1.shapeN (n := n) hplen; obtain ⟨gp, rfl, hgp, hgp'⟩ := hod1.row (by omega); have hcv := hod1.cell (k := k + 1) (some_at0 (show k + 1 < pl.length by omega))
      have hd1 : Below w3.heap.size w3 wd1 := (by (repeat (first | exact Below.refl _ _ | (refine Below.setCell ?_ (by first | (simp; done) | (simp; omega) | omega) _) | (refine Below.alloc ?_ (by first | (simp; done) | (simp; omega) | omega) _) | (refine below_drewN ?_ _) | (refine Below.drew ?_) | (refine Below.trans ?_ (Below.mono hbd1 (by first | (simp; done) | (simp; omega) | omega))))))
      have hsd1 := hd1.size
      have hsz1_ := hbd1.size
      (try simp at hsz1_)
      obtain ⟨f1_a, f1_b⟩ := ((X3).below hd1 (Nat.le_refl _))
      obtain ⟨f1_c, f1_d⟩ := ((T3).below hd1 (Nat.le_refl _))
      obtain ⟨f1_e, f1_f⟩ := ((O3.1).below hd1 (Nat.le_refl _))
      have hw1_ := hO3.below hd1
      have hc1_ := hw1_.cell (k := k + 1) (some_at0 (by rw [HLi.out]; omega))
      have hf1_ := hw1_.fz (k + 1)
      go_wp2_with fail
      clear hHeld
      have hHeld : (fun w' : World => w'.cell? ⟨w.heap.size, 0, none⟩ = some (.int .i64 m) ∧ w'.cell? ⟨w.heap.size, 1, none⟩ = some (.slice o n c) ∧ w'.cell? ⟨bt, 0, none⟩ = some (.int .i64 m) ∧ w'.cell? ⟨bt, 1, none⟩ = some (.slice (some ⟨gt, 0, none⟩) n ct) ∧ w'.cell? ⟨bo, 0, none⟩ = some (.int .i64 m) ∧ w'.cell? ⟨bo, 1, none⟩ = some (.slice (some ⟨g, 0, none⟩) n cz)) wd1 := by go_keep
      refine hK.out _ _ (fun _ => hHeld) ?_
      clear hK K
      try simp only [List.getElem_toArray, List.getElem_cons_zero, List.getElem_cons_succ, Act.put, List.setIfInBounds_toArray, List.set_cons_zero, List.set_cons_succ]
      refine wpAnyK_oneL (i := 7) rfl (by kernel_rfl) (fun K hK => ?_)
      go_simp
      (try go_wp2_with fail)
      refine hK.out _ _ (fun _ => hHeld) ?_
      clear hK K
      try simp only [List.getElem_toArray, List.getElem_cons_zero, List.getElem_cons_succ, Act.put, List.setIfInBounds_toArray, List.set_cons_zero, List.set_cons_succ]
      refine wpAnyK_oneL (i := 9) rfl (by kernel_rfl) (fun K hK => ?_)
      go_simp
      (try go_wp2_with fail)
      refine hK.out _ _ (fun _ => hHeld) ?_
      clear hK K
      try simp only [List.getElem_toArray, List.getElem_cons_zero, List.getElem_cons_succ, Act.put, List.setIfInBounds_toArray, List.set_cons_zero, List.set_cons_succ]
      refine wpAnyK_oneL (i := 10) rfl (by kernel_rfl) (fun K hK => ?_)
      go_simp
      (try go_wp2_with fail)
      refine hK.out _ _ (fun _ => hHeld) ?_
      clear hK K
      try simp only [List.getElem_toArray, List.getElem_cons_zero, List.getElem_cons_succ, Act.put, List.setIfInBounds_toArray, List.set_cons_zero, List.set_cons_succ]
      refine wpAnyK_oneL (i := 11) rfl (by kernel_rfl) (fun K hK => ?_)
      go_simp
      (try go_wp2_with fail)
      refine hK.out _ _ (fun _ => hHeld) ?_
      clear hK K
      try simp only [List.getElem_toArray, List.getElem_cons_zero, List.getElem_cons_succ, Act.put, List.setIfInBounds_toArray, List.set_cons_zero, List.set_cons_succ]
      refine wpAnyK_oneL (i := 14) rfl (by kernel_rfl) (fun K hK => ?_)
      go_simp
      go_at_call 134
      refine (mod_c (-(at0 pl (k + 1))) m _ (by omega) (by omega) (by omega) (by omega)).mono ?_
      rintro e w' ⟨rfl, rfl⟩
      go_wp2_with fail
      refine hK.out _ _ (fun _ => hHeld) ?_
      clear hK K
      try simp only [List.getElem_toArray, List.getElem_cons_zero, List.getElem_cons_succ, Act.put, List.setIfInBounds_toArray, List.set_cons_zero, List.set_cons_succ]
      refine wpAnyK_oneL (i := 15) rfl (by kernel_rfl) (fun K hK => ?_)
      go_simp
      (try go_wp2_with fail)
      refine hK.out _ _ (fun _ => hHeld) ?_
      clear hK K
      try simp only [List.getElem_toArray, List.getElem_cons_zero, List.getElem_cons_succ, Act.put, List.setIfInBounds_toArray, List.set_cons_zero, List.set_cons_succ]
      refine wpAnyK_oneL (i := 16) rfl (by kernel_rfl) (fun K hK => ?_)
      go_simp
      (try go_wp2_with fail)
      refine hK.out _ _ (fun h => absurd h (by decide)) ?_
      clear hK K
      try simp only [List.getElem_toArray, List.getElem_cons_zero, List.getElem_cons_succ, Act.put, List.setIfInBounds_toArray, List.set_cons_zero, List.set_cons_succ]
      refine wpAnyK_done (by kernel_rfl) ?_ _
      go_wp2_with fail
      have hOn := hO3.below hd1
      have On := (O3.below hd1 (Nat.le_refl _)).grown (gr_put (World.grownBy.refl wd1 (some g)) (k + 1) (.int .i64 ((-(at0 pl (k + 1))) % m))) (by simp; omega)
      have hbn := below_put (hbr3.trans (hd1.mono hbr3.size)) (g := g) (k := k + 1) (by omega) (.int .i64 ((-(at0 pl (k + 1))) % m))
      have hOz := hOn.put (k + 1) ((-(at0 pl (k + 1))) % m)
      rw [HS.out] at hOz
      exact ⟨⟨k + 1, by omega, by go_num, hOz, On, hbn⟩, by simp [intOf]; omega⟩
    · obtain rfl : n = k + 1 := by omega
      have i1 : ¬ (k : Int) + 1 ≤ ((k + 1 : Nat) : Int) - 1 := by omega
      obtain ⟨⟨z0, z1⟩, zf⟩ := id O3
      obtain ⟨⟨r0, r1⟩, rf⟩ := id R3
      have lR3 := R3.1.lt
      go_wp2
      refine bodyPost_ret (v := .agg #[.int .i64 m, .slice (some ⟨g, 0, none⟩) (k + 1) cz]) (by simp [results, Try.results150, go_sem, r0, r1]) rfl ⟨_, rfl, ?_, ?_⟩
      · exact ((hO3.low (by first | (simp; done) | (simp; omega) | omega) _).low (by first | (simp; done) | (simp; omega) | omega) _).mono (by first | (simp; done) | (simp; omega) | omega)
      · (repeat (first | exact Below.refl _ _ | (refine Below.setCell ?_ (by first | (simp; done) | (simp; omega) | omega) _) | (refine Below.alloc ?_ (by first | (simp; done) | (simp; omega) | omega) _) | (refine below_drewN ?_ _) | (refine Below.drew ?_) | (refine Below.trans ?_ (Below.mono B3 (by first | (simp; done) | (simp; omega) | omega)))))
end Go.Proofs.Ytdnkadlondediaa
