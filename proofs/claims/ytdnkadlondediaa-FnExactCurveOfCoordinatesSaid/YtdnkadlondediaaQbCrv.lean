/- Lemmas of Crv. -/
import Derived.Test.YtdnkadlondediaaQbG5
import Derived.Test.YtdnkadlondediaaQbPut
import Derived.Test.YtdnkadlondediaaQbCrd
import Derived.Test.YtdnkadlondediaaQbG3
set_option linter.unusedSimpArgs false
set_option linter.unusedVariables false
namespace Go.Proofs.Ytdnkadlondediaa
open Go.RowKit

def crvR (m : Int) (t : List (List Int)) (l : List Int) : SR :=
  if lawB m t then (if (l.length : Int) != (t.length : Int) - 1 then SR.bad 2 else (if numsB m l then ⟨m, crvL m t.length t l, 0⟩ else SR.bad 2)) else SR.bad 1

set_option maxHeartbeats 1000000 in
set_option maxRecDepth 100000 in
theorem monomial_c (m d kk c : Int) (n k : Nat) (w : World) (hd : d + 1 = n) (hkk : kk = (k : Int)) (hk : k < n) (hn : n ≤ 1048576) :
    Calls Try.prog 97 #[.int .i64 m, .int .i64 d, .int .i64 kk, .int .i64 c] w fun e w' => SVEnd w w' m (monL n k c) e := by
  subst hkk
  go_enter Try.func97, Try.ntmps97
  go_wp2_with fail
  have R0 := RB2.mk1 w (.int .i64 0) (.slice none 0 0) 34
  have B0 : Below w.heap.size w (w.alloc (.cells #[.int .i64 0, .slice none 0 0] 34)) := (by (repeat (first | exact Below.refl _ _ | (refine Below.setCell ?_ (by first | (simp; done) | (simp; omega) | omega) _) | (refine Below.alloc ?_ (by first | (simp; done) | (simp; omega) | omega) _) | (refine below_drewN ?_ _) | (refine Below.drew ?_))))
  generalize w.alloc (.cells #[.int .i64 0, .slice none 0 0] 34) = w0 at R0 B0 ⊢
  have hzl : w.heap.size < w0.heap.size := R0.1.lt
  go_wp2_with fail
  refine (zero_c m d n _ hd hn).mono ?_
  rintro e w1 ⟨vz, rfl, how, hb⟩
  obtain ⟨oz, cz, rfl⟩ := how.shapeN (n := n) (by simp)
  obtain ⟨g, rfl, hgl, hgl'⟩ := how.row (by omega)
  (have R1 := R0.below hb (Nat.le_refl _); have B1 := B0.trans (hb.mono B0.size))
  have hb1 := hb.size
  have lR := R1.1.lt
  have hc0 := how.cell (k := k) (rep_get n k 0 hk)
  have hf0 := how.fz k
  have Hn := Lib.hid how
  clear how
  have i0 : (0 : Int) ≤ (k : Int) := by omega
  have i2 : (k : Int) < (n : Int) := by omega
  have hgn : g ≠ w1.heap.size := by omega
  have hgr : g ≠ w.heap.size := by omega
  obtain ⟨⟨r0, r1⟩, rf⟩ := id R1
  go_wp2
  refine bodyPost_ret (v := .agg #[.int .i64 m, .slice (some ⟨g, 0, none⟩) n cz]) (by simp [results, Try.results97, go_sem, r0, r1, lR, hgn, hgr]) rfl ⟨_, rfl, ?_, ?_⟩
  · exact ((((Hn.out.put k c).low (by first | (simp; done) | (simp; omega) | omega) _).low (by first | (simp; done) | (simp; omega) | omega) _).alloc _).mono (by first | (simp; done) | (simp; omega) | omega)
  · (repeat (first | exact Below.refl _ _ | (refine Below.setCell ?_ (by first | (simp; done) | (simp; omega) | omega) _) | (refine Below.alloc ?_ (by first | (simp; done) | (simp; omega) | omega) _) | (refine below_drewN ?_ _) | (refine Below.drew ?_) | (refine Below.trans ?_ (Below.mono B1 (by first | (simp; done) | (simp; omega) | omega)))))

set_option maxHeartbeats 2000000 in
set_option maxRecDepth 100000 in
theorem l12Curve_c (m : Int) (n : Nat) (v u : Value) (t : List (List Int)) (l : List Int) (w : World) (hv : RdT w v t) (hu : RdI w u l) (hl : l.length < n) (h1 : 2 ≤ n) (hn : n ≤ 1000) (hm : 2 ≤ m) (hm' : m ≤ 10000) (ht : PlaT m n t) (hx : ∀ x ∈ l, 0 ≤ x ∧ x < m) :
    Calls Try.prog 91 #[.int .i64 m, v, u] w fun e w' => ∃ v', e = .returned v' ∧ OwI w' w.heap.size v' (crvL m n t l) ∧ Below w.heap.size w w' := by
  obtain ⟨o, c, rfl, hmt, -⟩ := id hv
  obtain ⟨o', c', rfl, hml, -⟩ := id hu
  have hv' : RdT w (.slice o n c) t := by rw [ht.1] at hv; exact hv
  rw [ht.1] at hmt ⊢
  have HT := Lib.hid ht
  clear ht hv
  unfold maxLen at hmt hml
  go_enter Try.func91, Try.ntmps91
  go_wp2_with (at_make; go_loud (refine mkI _ rfl _ _ rfl _ _ _ n rfl rfl rfl (by omega) ?_; intro w1 hown hb hs1; have Hown := Lib.hid hown; clear hown; have Hs1 := Lib.hid hs1; clear hs1))
  have hO := Hown.out
  clear Hown Hs1
  go_loopw [7, 8, 9] (fun so i _ wr => ∃ (k : Nat) (ov : Option Addr) (cv : Nat), k ≤ l.length ∧ i = .int .i64 k ∧ so = .slice ov n cv ∧ OwI wr w.heap.size (.slice ov n cv) (crvTo m n t l k) ∧ Below w.heap.size w wr) (fun _ i _ _ => l.length - (intOf i).toNat)
  case atStart => exact ⟨0, _, _, Nat.zero_le _, rfl, rfl, hO, hb⟩
  case round =>
    clear hO hb
    obtain ⟨k, ov, cv, hk, rfl, rfl, hO, hB⟩ := hrel
    have hBs := hB.size
    by_cases hlt : k < l.length
    · obtain ⟨bx, fx, rfl, -⟩ := hu.cells (by omega)
      have i0 : (0 : Int) ≤ (k : Int) := by omega
      have i1 : (k : Int) < (l.length : Int) := by omega
      have i2 : (0 : Int) ≤ (k : Int) + 1 := by omega
      have i3 : (k : Int) + 1 < (n : Int) := by omega
      have i4 : ((k : Int) + 1).toNat = k + 1 := by omega
      have hxk := at0_range (by omega) hx k
      go_wp2_with (at_make; go_loud (refine mkI _ rfl _ _ rfl _ _ _ n rfl rfl rfl (by omega) ?_; intro w2 hown hb2 hs1; have cx := (hu.below (hB.trans (hb2.mono hBs)) (Nat.le_refl _)).cell0 (some_at0 hlt); have hc0 := hown.cell (k := k + 1) (rep_get n (k + 1) 0 (by omega)); have hf0 := hown.fz (k + 1); have Hown := Lib.hid hown; clear hown; have Hs1 := Lib.hid hs1; clear hs1))
      have hM := Hown.out.put (k + 1) (at0 l k)
      have hO2 := (hO.below hb2).ne (b := wr.heap.size) (k := k + 1) (fun j hj => by have hq := (hO.lt j hj).2; omega) (.int .i64 (at0 l k))
      have hB2 := below_put (hB.trans (hb2.mono hBs)) (g := wr.heap.size) (k := k + 1) hBs (.int .i64 (at0 l k))
      have HS := Lib.hid (show putL m n t (crvTo m n t l k) (monL n (k + 1) (at0 l k)) = crvTo m n t l (k + 1) from rfl)
      clear Hown Hs1 hc0 hf0 cx
      generalize w2.setCell ⟨wr.heap.size, k + 1, none⟩ (.int .i64 (at0 l k)) = w3 at hM hO2 hB2 ⊢
      have hB2s := hB2.size
      refine (l03Put_c m n _ _ _ t (crvTo m n t l k) (monL n (k + 1) (at0 l k)) _ (hv'.below hB2 (Nat.le_refl _)) hO2.rd hM.rd (crvTo_len _ _ _ _ _) (monL_len _ _ _) (by omega) (by omega) (by omega) (by omega) HT.out (crvTo_range (by omega) _ _ _ _) (monL_range (by omega) hxk)).mono ?_
      rintro e w4 ⟨vp, rfl, hop, hb4⟩
      rw [HS.out] at hop
      obtain ⟨op, cp, rfl⟩ := hop.shapeN (n := n) (crvTo_len _ _ _ _ _)
      go_wp2
      exact ⟨⟨k + 1, _, _, by omega, by go_num, rfl, hop.mono hB2s, hB2.trans (hb4.mono hB2s)⟩, by simp [intOf]; omega⟩
    · obtain rfl : k = l.length := by omega
      go_wp2
      go_ret
      exact ⟨_, rfl, hO, hB⟩

set_option maxHeartbeats 400000 in
theorem crv1_c (m x : Int) (b : Nat) (w : World) (hm : -9223372036854775808 < m) (hm' : m ≤ 9223372036854775807)
    (h1 : w.cell? ⟨b, 0, none⟩ = some (.int .i64 m)) :
    Calls Try.prog 93 #[.int .i64 x, .pointer (some ⟨b, 0, none⟩)] w fun e w' => e = .returned (.bool (inB x 0 (m - 1))) ∧ w = w' := by
  go_enter Try.func93, Try.ntmps93
  go_wp2_with (go_at_call 94; refine (isNumber_c _ _ _ hm hm').mono ?_; rintro e w' ⟨rfl, rfl⟩)
  go_ret
  exact ⟨rfl, rfl⟩
theorem crv1_callable : Callable 93 := fun args w => Try.call93 args w

set_option maxHeartbeats 8000000 in
set_option maxRecDepth 100000 in
theorem CurveOfCoordinates_g (m : Int) (v : Value) (t : List (List Int)) (u : Value) (l : List Int) (w : World) (hv : RdT w v t) (hu : RdI w u l) (h1 : lawB m t = true) (h2 : ((l.length : Int) != (t.length : Int) - 1) = false) (h4 : numsB m l = true) :
    Calls Try.prog 32 #[.agg #[.int .i64 m, v], u] w fun e w' => SEnd w w' (crvR m t l) e := by
  obtain ⟨o, c, rfl, hmt, -⟩ := id hv
  obtain ⟨o1, c1, rfl, hml, -⟩ := id hu
  have hml' := hmt.1
  have hp := (lawB_t h1).1
  have hm := pla_m hp
  have hn := pla_n hp
  have HT := Lib.hid (show PlaT m t.length t from ⟨rfl, pla_row hp⟩)
  clear hp
  unfold maxLen at hmt hml
  have h3 : l.length + 1 = t.length := by have := (bne_eq_false_iff_eq.1 h2); omega
  have hR : crvR m t l = ⟨m, crvL m t.length t l, 0⟩ := by simp [crvR, h1, h2, h4]
  rw [hR]
  have hx := nums_x h4
  clear hR
  go_enter Try.func32, Try.ntmps32
  go_wp2_with fail
  (have X0 := ((RB2.mk1 w  (.int .i64 m) (.slice o t.length c) 32).1).below (w' := ((w.alloc (.cells #[.int .i64 m, .slice o t.length c] 32)).alloc (.cells #[.int .i64 0, .slice none 0 0] 34))) (by (repeat (first | exact Below.refl _ _ | (refine Below.setCell ?_ (by first | (simp; done) | (simp; omega) | omega) _) | (refine Below.alloc ?_ (by first | (simp; done) | (simp; omega) | omega) _) | (refine below_drewN ?_ _) | (refine Below.drew ?_)))) (Nat.le_refl _); have R0 := ((RB2.mk2 w (.cells #[.int .i64 m, .slice o t.length c] 32) (.int .i64 0) (.slice none 0 0) 34)).below (w' := ((w.alloc (.cells #[.int .i64 m, .slice o t.length c] 32)).alloc (.cells #[.int .i64 0, .slice none 0 0] 34))) (by (repeat (first | exact Below.refl _ _ | (refine Below.setCell ?_ (by first | (simp; done) | (simp; omega) | omega) _) | (refine Below.alloc ?_ (by first | (simp; done) | (simp; omega) | omega) _) | (refine below_drewN ?_ _) | (refine Below.drew ?_)))) (Nat.le_refl _); have B0 : Below w.heap.size w ((w.alloc (.cells #[.int .i64 m, .slice o t.length c] 32)).alloc (.cells #[.int .i64 0, .slice none 0 0] 34)) := (by (repeat (first | exact Below.refl _ _ | (refine Below.setCell ?_ (by first | (simp; done) | (simp; omega) | omega) _) | (refine Below.alloc ?_ (by first | (simp; done) | (simp; omega) | omega) _) | (refine below_drewN ?_ _) | (refine Below.drew ?_)))); have hv0 := hv.below (w' := ((w.alloc (.cells #[.int .i64 m, .slice o t.length c] 32)).alloc (.cells #[.int .i64 0, .slice none 0 0] 34))) (by (repeat (first | exact Below.refl _ _ | (refine Below.setCell ?_ (by first | (simp; done) | (simp; omega) | omega) _) | (refine Below.alloc ?_ (by first | (simp; done) | (simp; omega) | omega) _) | (refine below_drewN ?_ _) | (refine Below.drew ?_)))) (Nat.le_refl _); have hu0 := hu.below (w' := ((w.alloc (.cells #[.int .i64 m, .slice o t.length c] 32)).alloc (.cells #[.int .i64 0, .slice none 0 0] 34))) (by (repeat (first | exact Below.refl _ _ | (refine Below.setCell ?_ (by first | (simp; done) | (simp; omega) | omega) _) | (refine Below.alloc ?_ (by first | (simp; done) | (simp; omega) | omega) _) | (refine below_drewN ?_ _) | (refine Below.drew ?_)))) (Nat.le_refl _); generalize (w.alloc (.cells #[.int .i64 m, .slice o t.length c] 32)).alloc (.cells #[.int .i64 0, .slice none 0 0] 34) = w0 at X0 R0 B0 hv0 hu0 ⊢)
  (obtain ⟨gqX0, gqX1⟩ := id X0; go_wp2_with fail; refine (IsLaw_c m _ t _ hv0).mono ?_; rw [h1]; rintro e w1 ⟨rfl, hb⟩; (have X1 := X0.below hb (Nat.le_refl _); have R1 := R0.below hb (Nat.le_refl _); have hv1 := hv0.below hb (Nat.le_refl _); have hu1 := hu0.below hb (Nat.le_refl _); have B1 := B0.trans (hb.mono B0.size)); clear gqX0 gqX1; clear hb)
  (obtain ⟨gqX0, gqX1⟩ := id X1; go_wp2_with fail; refine (degreeP_c m o t.length c _ hml').mono ?_; rintro e w2 ⟨rfl, hb⟩; (have X2 := X1.below hb (Nat.le_refl _); have R2 := R1.below hb (Nat.le_refl _); have hv2 := hv1.below hb (Nat.le_refl _); have hu2 := hu1.below hb (Nat.le_refl _); have B2 := B1.trans (hb.mono B1.size)); clear gqX0 gqX1; clear hb)
  obtain ⟨x0, x1⟩ := id X2
  go_wp2_with fail
  refine (allI_c 93 _ (fun x => inB x 0 (m - 1)) _ l _ hu2 crv1_callable (fun x hx w1 hb => crv1_c m x _ _ (by omega) (by omega) (keep_cell hb (Nat.le_refl _) x0))).mono ?_
  rw [show l.all (fun x => inB x 0 (m - 1)) = true from h4]
  rintro e w3 ⟨rfl, hb⟩
  (have X3 := X2.below hb (Nat.le_refl _); have R3 := R2.below hb (Nat.le_refl _); have hv3 := hv2.below hb (Nat.le_refl _); have hu3 := hu2.below hb (Nat.le_refl _); have B3 := B2.trans (hb.mono B2.size))
  clear x0 x1 hb
  go_wp2_with fail
  have HX := Lib.hid hx
  have HM := Lib.hid hm
  have HN := Lib.hid hn
  have hlen : (crvL m t.length t l).length ≤ 1048576 := by rw [show (crvL m t.length t l).length = t.length from crvTo_len _ _ _ _ _]; omega
  have lX3 := X3.lt
  have lR3 := R3.1.lt
  have B3s := B3.size
  clear hx h4 h2 hmt
  go_cut [6] (fun sb u => ∃ (wz : World) (b : Nat) (oz : Option Addr) (cz : Nat), wz = u ∧ sb = .pointer (some ⟨b, 0, none⟩) ∧ w3.heap.size ≤ b ∧ RB2 u b (.int .i64 m) (.slice oz t.length cz) ∧ OwI u w3.heap.size (.slice oz t.length cz) (List.replicate t.length 0) ∧ (∀ k, (Value.slice oz t.length cz).ownBlock = some k → k ≠ b) ∧ Below w3.heap.size w3 u)
  case first =>
    have hd0 : Below w3.heap.size w3 w3.drew := (Below.refl _ _).drew
    have hsd0 := hd0.size
    have hlb_X3 := X3.lt
    obtain ⟨q0_X3_0, q0_X3_1⟩ := X3.below (Below.refl w3.heap.size w3) (Nat.le_refl _)
    have hne0_X3 : w3.heap.size ≠ w.heap.size := by omega
    go_region_held3 (fun w' => w'.cell? ⟨w.heap.size, 0, none⟩ = some (.int .i64 m) ∧ w'.cell? ⟨w.heap.size, 1, none⟩ = some (.slice o t.length c)) (go_keep)
      (first
        | (go_at_call 71; refine (degreeP_c m o t.length c _ hml').mono ?_; rintro e wd1 ⟨rfl, hbd1⟩; have hd1 : Below w3.heap.size w3 wd1 := (by (repeat (first | exact Below.refl _ _ | (refine Below.setCell ?_ (by first | (simp; done) | (simp; omega) | omega) _) | (refine Below.alloc ?_ (by first | (simp; done) | (simp; omega) | omega) _) | (refine below_drewN ?_ _) | (refine Below.drew ?_) | (refine Below.trans ?_ (Below.mono hbd1 (by first | (simp; done) | (simp; omega) | omega)))))); have hsd1 := hd1.size; have hsz1_ := hbd1.size; (try simp at hsz1_); obtain ⟨q1_X3_0, q1_X3_1⟩ := X3.below hd1 (Nat.le_refl _); have hne1_X3 : wd1.heap.size ≠ w.heap.size := (by omega); (try (have RZ := RZ.below hbd1 (Nat.le_refl _))); (try (have RZ := (show RB2 (w3.alloc (.cells #[.int .i64 0, .slice none 0 0] 34)).drew w3.heap.size (.int .i64 0) (.slice none 0 0) from RB2.mk1 w3 (.int .i64 0) (.slice none 0 0) _).below hbd1 (Nat.le_refl _))); (try (obtain ⟨⟨z1_0, z1_1⟩, zf1⟩ := id RZ)))
        | (go_at_call 95; refine (zero_c m ((t.length : Int) - 1) t.length _ (by omega) (by omega)).mono ?_; rintro e wd2 ⟨vz, rfl, hod2, hbd2⟩; obtain ⟨oz, cz, rfl⟩ := hod2.shapeN (n := t.length) (by simp); have hd2 : Below w3.heap.size w3 wd2 := (by (repeat (first | exact Below.refl _ _ | (refine Below.setCell ?_ (by first | (simp; done) | (simp; omega) | omega) _) | (refine Below.alloc ?_ (by first | (simp; done) | (simp; omega) | omega) _) | (refine below_drewN ?_ _) | (refine Below.drew ?_) | (refine Below.trans ?_ (Below.mono hbd1 (by first | (simp; done) | (simp; omega) | omega))) | (refine Below.trans ?_ (Below.mono hbd2 (by first | (simp; done) | (simp; omega) | omega)))))); have hsd2 := hd2.size; have hsz2_ := hbd2.size; (try simp at hsz2_); obtain ⟨q2_X3_0, q2_X3_1⟩ := X3.below hd2 (Nat.le_refl _); have hne2_X3 : wd2.heap.size ≠ w.heap.size := (by omega); (try (have RZ := RZ.below hbd2 (Nat.le_refl _))); (try (have RZ := (show RB2 (wd1.alloc (.cells #[.int .i64 0, .slice none 0 0] 34)) wd1.heap.size (.int .i64 0) (.slice none 0 0) from RB2.mk1 wd1 (.int .i64 0) (.slice none 0 0) _).below hbd2 (Nat.le_refl _))); (try (obtain ⟨⟨z2_0, z2_1⟩, zf2⟩ := id RZ))))
    all_goals
      go_wp2_with fail
      go_meet
      have hL := hod2.lt
      refine ⟨_, _, oz, cz, rfl, rfl, ?_, ?_, ?_, ?_, ?_⟩
      · first | omega | (simp; done) | (simp; omega)
      · first | exact RB2.mk1 _ _ _ _ | exact RB2.put RZ _ _
      · first | exact (hod2.alloc _).mono (by first | (simp; done) | (simp; omega) | omega) | exact ((hod2.low (by first | (simp; done) | (simp; omega) | omega) _).low (by first | (simp; done) | (simp; omega) | omega) _).mono (by first | (simp; done) | (simp; omega) | omega)
      · intro k hk; have hq := hL k hk; first | omega | (simp at hq; omega)
      · (repeat (first | exact Below.refl _ _ | (refine Below.setCell ?_ (by first | (simp; done) | (simp; omega) | omega) _) | (refine Below.alloc ?_ (by first | (simp; done) | (simp; omega) | omega) _) | (refine below_drewN ?_ _) | (refine Below.drew ?_) | (refine Below.trans ?_ (Below.mono hbd1 (by first | (simp; done) | (simp; omega) | omega))) | (refine Below.trans ?_ (Below.mono hbd2 (by first | (simp; done) | (simp; omega) | omega)))))
  case rest =>
  obtain ⟨w4, b, oz, cz, rfl, rfl, hbW, O, how, hneb, hb⟩ := hcut
  (have X4 := X3.below hb (Nat.le_refl _); have R4 := R3.below hb (Nat.le_refl _); have hv4 := hv3.below hb (Nat.le_refl _); have hu4 := hu3.below hb (Nat.le_refl _); have B4 := B3.trans (hb.mono B3.size))
  have B4s := B4.size
  have hb4s := hb.size
  have lO := O.1.lt
  have lX := X4.lt
  go_wp2_with fail
  go_loopw [34] (fun s wr => ∃ (k : Nat) (ov : Option Addr) (cv : Nat), k ≤ l.length ∧ s = .int .i64 k ∧ OwI wr w3.heap.size (.slice ov t.length cv) (crvTo m t.length t l k) ∧ RB2 wr b (.int .i64 m) (.slice ov t.length cv) ∧ w4.grownBy wr (some b)) (fun s _ => l.length - (intOf s).toNat)
  case atStart => exact ⟨0, oz, cz, Nat.zero_le _, rfl, how, O, World.grownBy.refl _ _⟩
  case round =>
    obtain ⟨k, ov, cv, hk, rfl, hO, OO, hg⟩ := hrel
    have Br := below_gr B4 hg (by omega) B4s
    by_cases hlt : k < l.length
    · obtain ⟨bx, fx, rfl, -⟩ := hu4.cells (by omega)
      have i0 : (0 : Int) ≤ (k : Int) := by omega
      have i1 : (k : Int) < (l.length : Int) := by omega
      have cx := (hu.below Br (Nat.le_refl _)).cell0 (some_at0 hlt)
      have hgs := hg.size
      have Xr := X4.grown hg (by intro e; injection e with e; omega)
      have hvr := hv.below Br (Nat.le_refl _)
      have ek : IntKind.i64.wrap ((k : Int) + 1) = ((k + 1 : Nat) : Int) := by rw [IntWalk.i64_in _ (by omega)]; omega
      have HMON := Lib.hid (fun (u : World) => monomial_c m ((t.length : Int) - 1) ((k : Int) + 1) (at0 l k) t.length (k + 1) u (by omega) (by omega) (by omega) (by omega))
      have hxk := at0_range (by have := HM.out; omega) HX.out k
      have HS := Lib.hid (show putL m t.length t (crvTo m t.length t l k) (monL t.length (k + 1) (at0 l k)) = crvTo m t.length t l (k + 1) from rfl)
      have HL := Lib.hid (crvTo_len m t.length t l k)
      have HRl := Lib.hid (crvTo_range (m := m) (by have := HM.out; omega) t.length t l k)
      have HRm := Lib.hid (monL_range (m := m) (n := t.length) (k := k + 1) (by have := HM.out; omega) hxk)
      generalize crvTo m t.length t l k = q at hO HS HL HRl
      go_wp2_with fail
      clear cx
      have hd0 : Below wr.heap.size wr wr.drew := (Below.refl _ _).drew
      have hsd0 := hd0.size
      have hlb_OO := OO.1.lt
      obtain ⟨⟨q0_OO_0, q0_OO_1⟩, qf0_OO⟩ := OO.below (Below.refl wr.heap.size wr) (Nat.le_refl _)
      obtain ⟨q0_Xr_0, q0_Xr_1⟩ := Xr.below (Below.refl wr.heap.size wr) (Nat.le_refl _)
      refine wp_region_S (S := fun w' => w'.cell? ⟨b , 0, none⟩ = some (.int .i64 m) ∧ w'.cell? ⟨b , 1, none⟩ = some (.slice ov t.length cv) ∧ w'.cell? ⟨w.heap.size, 0, none⟩ = some (.int .i64 m) ∧ w'.cell? ⟨w.heap.size, 1, none⟩ = some (.slice o t.length c)) 11 (by kernel_rfl) ?_
      have hHeld : (fun w' : World => w'.cell? ⟨b , 0, none⟩ = some (.int .i64 m) ∧ w'.cell? ⟨b , 1, none⟩ = some (.slice ov t.length cv) ∧ w'.cell? ⟨w.heap.size, 0, none⟩ = some (.int .i64 m) ∧ w'.cell? ⟨w.heap.size, 1, none⟩ = some (.slice o t.length c)) wr.drew := by go_keep
      refine' wpAnyS_takeL (i := 0) (v := _) rfl (by kernel_rfl) (by kernel_rfl) (by kernel_rfl) (by kernel_rfl) (fun _ _ _ h => h) (Or.inl ⟨by rfl, ?yT1⟩) hHeld ?rT1
      case yT1 => (intro w' hSw; (try dsimp only at hSw); go_simp; try with_reducible rfl)
      try simp only [List.getElem_toArray, List.getElem_cons_zero, List.getElem_cons_succ, Act.put, List.setIfInBounds_toArray, List.set_cons_zero, List.set_cons_succ]
      refine' wpAnyS_takeL (i := 1) (v := _) rfl (by kernel_rfl) (by kernel_rfl) (by kernel_rfl) (by kernel_rfl) (fun _ _ _ h => h) (Or.inl ⟨by rfl, ?yT2⟩) hHeld ?rT2
      case yT2 => (intro w' hSw; (try dsimp only at hSw); go_simp; try with_reducible rfl)
      try simp only [List.getElem_toArray, List.getElem_cons_zero, List.getElem_cons_succ, Act.put, List.setIfInBounds_toArray, List.set_cons_zero, List.set_cons_succ]
      refine' wpAnyS_takeL (i := 2) (v := _) rfl (by kernel_rfl) (by kernel_rfl) (by kernel_rfl) (by kernel_rfl) (fun _ _ _ h => h) (Or.inl ⟨by rfl, ?yT3⟩) hHeld ?rT3
      case yT3 => (intro w' hSw; (try dsimp only at hSw); go_simp; try with_reducible rfl)
      try simp only [List.getElem_toArray, List.getElem_cons_zero, List.getElem_cons_succ, Act.put, List.setIfInBounds_toArray, List.set_cons_zero, List.set_cons_succ]
      refine' wpAnyS_takeL (i := 3) (v := _) rfl (by kernel_rfl) (by kernel_rfl) (by kernel_rfl) (by kernel_rfl) (fun _ _ _ h => h) (Or.inl ⟨by rfl, ?yT4⟩) hHeld ?rT4
      case yT4 => (intro w' hSw; (try dsimp only at hSw); go_simp; try with_reducible rfl)
      try simp only [List.getElem_toArray, List.getElem_cons_zero, List.getElem_cons_succ, Act.put, List.setIfInBounds_toArray, List.set_cons_zero, List.set_cons_succ]
      refine' wpAnyS_takeL (i := 4) (v := _) rfl (by kernel_rfl) (by kernel_rfl) (by kernel_rfl) (by kernel_rfl) (fun _ _ _ h => h) (Or.inl ⟨by rfl, ?yT5⟩) hHeld ?rT5
      case yT5 => (intro w' hSw; (try dsimp only at hSw); go_simp; try with_reducible rfl)
      try simp only [List.getElem_toArray, List.getElem_cons_zero, List.getElem_cons_succ, Act.put, List.setIfInBounds_toArray, List.set_cons_zero, List.set_cons_succ]
      refine' wpAnyS_takeL (i := 6) (v := _) rfl (by kernel_rfl) (by kernel_rfl) (by kernel_rfl) (by kernel_rfl) (fun _ _ _ h => h) (Or.inl ⟨by rfl, ?yT6⟩) hHeld ?rT6
      case yT6 => (intro w' hSw; (try dsimp only at hSw); go_simp; try with_reducible rfl)
      try simp only [List.getElem_toArray, List.getElem_cons_zero, List.getElem_cons_succ, Act.put, List.setIfInBounds_toArray, List.set_cons_zero, List.set_cons_succ]
      refine' wpAnyS_takeL (i := 7) (v := _) rfl (by kernel_rfl) (by kernel_rfl) (by kernel_rfl) (by kernel_rfl) (fun _ _ _ h => h) (Or.inl ⟨by rfl, ?yT7⟩) hHeld ?rT7
      case yT7 => (intro w' hSw; (try dsimp only at hSw); go_simp; try with_reducible rfl)
      try simp only [List.getElem_toArray, List.getElem_cons_zero, List.getElem_cons_succ, Act.put, List.setIfInBounds_toArray, List.set_cons_zero, List.set_cons_succ]
      refine' wpAnyS_takeL (i := 8) (v := _) rfl (by kernel_rfl) (by kernel_rfl) (by kernel_rfl) (by kernel_rfl) (fun _ _ _ h => h) (Or.inl ⟨by rfl, ?yT8⟩) hHeld ?rT8
      case yT8 => (intro w' hSw; (try dsimp only at hSw); go_simp; try with_reducible rfl)
      try simp only [List.getElem_toArray, List.getElem_cons_zero, List.getElem_cons_succ, Act.put, List.setIfInBounds_toArray, List.set_cons_zero, List.set_cons_succ]
      refine wpAnyS_oneL (i := 5) rfl (by kernel_rfl) (fun K hK => ?_)
      go_simp
      go_at_call 71
      refine (degreeP_c m o t.length c _ hml').mono ?_
      rintro e wd1 ⟨rfl, hbd1⟩
      have hd1 : Below wr.heap.size wr wd1 := (by (repeat (first | exact Below.refl _ _ | (refine Below.setCell ?_ (by first | (simp; done) | (simp; omega) | omega) _) | (refine Below.alloc ?_ (by first | (simp; done) | (simp; omega) | omega) _) | (refine below_drewN ?_ _) | (refine Below.drew ?_) | (refine Below.trans ?_ (Below.mono hbd1 (by first | (simp; done) | (simp; omega) | omega))))))
      have hsd1 := hd1.size
      obtain ⟨⟨q1_OO_0, q1_OO_1⟩, qf1_OO⟩ := OO.below hd1 (Nat.le_refl _)
      obtain ⟨q1_Xr_0, q1_Xr_1⟩ := Xr.below hd1 (Nat.le_refl _)
      go_wp2_with fail
      clear hHeld
      have hHeld : (fun w' : World => w'.cell? ⟨b , 0, none⟩ = some (.int .i64 m) ∧ w'.cell? ⟨b , 1, none⟩ = some (.slice ov t.length cv) ∧ w'.cell? ⟨w.heap.size, 0, none⟩ = some (.int .i64 m) ∧ w'.cell? ⟨w.heap.size, 1, none⟩ = some (.slice o t.length c)) wd1 := by go_keep
      refine hK.out _ _ (fun _ => hHeld) ?_
      clear hK K
      try simp only [List.getElem_toArray, List.getElem_cons_zero, List.getElem_cons_succ, Act.put, List.setIfInBounds_toArray, List.set_cons_zero, List.set_cons_succ]
      refine wpAnyS_oneL (i := 9) rfl (by kernel_rfl) (fun K hK => ?_)
      go_simp
      go_at_call 97
      refine (HMON.out _).mono ?_
      rintro e wd2 ⟨vm, rfl, hod2, hbd2⟩
      obtain ⟨om, cm, rfl⟩ := hod2.shapeN (n := t.length) (monL_len _ _ _)
      have hd2 : Below wr.heap.size wr wd2 := (by (repeat (first | exact Below.refl _ _ | (refine Below.setCell ?_ (by first | (simp; done) | (simp; omega) | omega) _) | (refine Below.alloc ?_ (by first | (simp; done) | (simp; omega) | omega) _) | (refine below_drewN ?_ _) | (refine Below.drew ?_) | (refine Below.trans ?_ (Below.mono hbd1 (by first | (simp; done) | (simp; omega) | omega))) | (refine Below.trans ?_ (Below.mono hbd2 (by first | (simp; done) | (simp; omega) | omega))))))
      have hsd2 := hd2.size
      obtain ⟨⟨q2_OO_0, q2_OO_1⟩, qf2_OO⟩ := OO.below hd2 (Nat.le_refl _)
      obtain ⟨q2_Xr_0, q2_Xr_1⟩ := Xr.below hd2 (Nat.le_refl _)
      go_wp2_with fail
      clear hHeld
      have hHeld : (fun w' : World => w'.cell? ⟨b , 0, none⟩ = some (.int .i64 m) ∧ w'.cell? ⟨b , 1, none⟩ = some (.slice ov t.length cv) ∧ w'.cell? ⟨w.heap.size, 0, none⟩ = some (.int .i64 m) ∧ w'.cell? ⟨w.heap.size, 1, none⟩ = some (.slice o t.length c)) wd2 := by go_keep
      refine hK.out _ _ (fun _ => hHeld) ?_
      clear hK K
      try simp only [List.getElem_toArray, List.getElem_cons_zero, List.getElem_cons_succ, Act.put, List.setIfInBounds_toArray, List.set_cons_zero, List.set_cons_succ]
      refine wpAnyS_oneL (i := 10) rfl (by kernel_rfl) (fun K hK => ?_)
      go_simp
      go_at_call 96
      refine (curvesP_c m m t.length _ _ _ t q (monL t.length (k + 1) (at0 l k)) _ ((hvr).below (by (repeat (first | exact Below.refl _ _ | (refine Below.setCell ?_ (by first | (simp; done) | (simp; omega) | omega) _) | (refine Below.alloc ?_ (by first | (simp; done) | (simp; omega) | omega) _) | (refine below_drewN ?_ _) | (refine Below.drew ?_) | (refine Below.trans ?_ (Below.mono hbd1 (by first | (simp; done) | (simp; omega) | omega))) | (refine Below.trans ?_ (Below.mono hbd2 (by first | (simp; done) | (simp; omega) | omega)))))) (Nat.le_refl _)) ((hO.rd).below (by (repeat (first | exact Below.refl _ _ | (refine Below.setCell ?_ (by first | (simp; done) | (simp; omega) | omega) _) | (refine Below.alloc ?_ (by first | (simp; done) | (simp; omega) | omega) _) | (refine below_drewN ?_ _) | (refine Below.drew ?_) | (refine Below.trans ?_ (Below.mono hbd1 (by first | (simp; done) | (simp; omega) | omega))) | (refine Below.trans ?_ (Below.mono hbd2 (by first | (simp; done) | (simp; omega) | omega)))))) (Nat.le_refl _)) ((hod2.below (by (repeat (first | exact Below.refl _ _ | (refine Below.setCell ?_ (by first | (simp; done) | (simp; omega) | omega) _) | (refine Below.alloc ?_ (by first | (simp; done) | (simp; omega) | omega) _) | (refine below_drewN ?_ _) | (refine Below.drew ?_)))))).rd HL.out (monL_len _ _ _) (by have := HN.out; omega) (by have := HN.out; omega) (by have := HM.out; omega) (by have := HM.out; omega) HT.out HRl.out HRm.out).mono ?_
      rintro e wd3 ⟨vp, rfl, hod3, hbd3⟩
      obtain ⟨op, cp, rfl⟩ := hod3.shapeN (n := t.length) (putTo_len _ _ _ _ _ _ _)
      have hd3 : Below wr.heap.size wr wd3 := (by (repeat (first | exact Below.refl _ _ | (refine Below.setCell ?_ (by first | (simp; done) | (simp; omega) | omega) _) | (refine Below.alloc ?_ (by first | (simp; done) | (simp; omega) | omega) _) | (refine below_drewN ?_ _) | (refine Below.drew ?_) | (refine Below.trans ?_ (Below.mono hbd1 (by first | (simp; done) | (simp; omega) | omega))) | (refine Below.trans ?_ (Below.mono hbd2 (by first | (simp; done) | (simp; omega) | omega))) | (refine Below.trans ?_ (Below.mono hbd3 (by first | (simp; done) | (simp; omega) | omega))))))
      have hsd3 := hd3.size
      obtain ⟨⟨q3_OO_0, q3_OO_1⟩, qf3_OO⟩ := OO.below hd3 (Nat.le_refl _)
      obtain ⟨q3_Xr_0, q3_Xr_1⟩ := Xr.below hd3 (Nat.le_refl _)
      go_wp2_with fail
      clear hHeld
      have hHeld : (fun w' : World => w'.cell? ⟨b , 0, none⟩ = some (.int .i64 m) ∧ w'.cell? ⟨b , 1, none⟩ = some (.slice ov t.length cv) ∧ w'.cell? ⟨w.heap.size, 0, none⟩ = some (.int .i64 m) ∧ w'.cell? ⟨w.heap.size, 1, none⟩ = some (.slice o t.length c)) wd3 := by go_keep
      refine hK.out _ _ (fun _ => hHeld) ?_
      clear hK K
      try simp only [List.getElem_toArray, List.getElem_cons_zero, List.getElem_cons_succ, Act.put, List.setIfInBounds_toArray, List.set_cons_zero, List.set_cons_succ]
      refine wpAnyS_oneL (i := 11) rfl (by kernel_rfl) (fun K hK => ?_)
      go_simp
      (try go_wp2_with fail)
      refine hK.out _ _ (fun h => absurd h (by decide)) ?_
      clear hK K
      try simp only [List.getElem_toArray, List.getElem_cons_zero, List.getElem_cons_succ, Act.put, List.setIfInBounds_toArray, List.set_cons_zero, List.set_cons_succ]
      refine wpAnyS_done (by kernel_rfl) ?_ _
      have hOn := OO.below hd3 (Nat.le_refl _)
      go_wp2_with fail
      have hgZ : wr.grownBy ((wd3.setCell ⟨b , 0, none⟩ (.int .i64 m)).setCell ⟨b , 1, none⟩ (.slice op t.length cp)) (some b ) := (gr_put (gr_put (show wr.grownBy wd3 (some b ) from World.grownBy.mk hd3.os hd3.tape hd3.output hd3.size (fun k hk _ => hd3.block k hk)) _ _) _ _)
      have hOZ : RB2 ((wd3.setCell ⟨b , 0, none⟩ (.int .i64 m)).setCell ⟨b , 1, none⟩ (.slice op t.length cp)) b  (.int .i64 m) (.slice op t.length cp) := RB2.put hOn _ _
      have hRZ : OwI ((wd3.setCell ⟨b , 0, none⟩ (.int .i64 m)).setCell ⟨b , 1, none⟩ (.slice op t.length cp)) wr.heap.size (.slice op t.length cp) (putL m t.length t q (monL t.length (k + 1) (at0 l k))) := ((hod3.low (by first | (simp; done) | (simp; omega) | omega) _).low (by first | (simp; done) | (simp; omega) | omega) _).mono (by first | (simp; done) | (simp; omega) | omega)
      rw [HS.out] at hRZ
      go_wp2
      exact ⟨⟨k + 1, op, cp, by omega, by go_num, hRZ.mono (by omega), hOZ, hg.trans hgZ⟩, by simp [intOf]; omega⟩
    · obtain rfl : k = l.length := by omega
      obtain ⟨⟨z0, z1⟩, zf⟩ := id OO
      obtain ⟨⟨r0, r1⟩, rf⟩ := R4.grown hg (by simp; omega)
      go_wp2
      refine bodyPost_ret (v := .tuple #[.agg #[.int .i64 m, .slice ov t.length cv], .int .i64 0]) (by simp [results, Try.results32, go_sem, r0, r1]) rfl ⟨_, rfl, ?_, ?_, hlen⟩
      · exact ((hO.low (by first | (simp; done) | (simp; omega) | omega) _).low (by first | (simp; done) | (simp; omega) | omega) _).mono (by first | (simp; done) | (simp; omega) | omega)
      · (repeat (first | exact Below.refl _ _ | (refine Below.setCell ?_ (by first | (simp; done) | (simp; omega) | omega) _) | (refine Below.alloc ?_ (by first | (simp; done) | (simp; omega) | omega) _) | (refine below_drewN ?_ _) | (refine Below.drew ?_) | (refine Below.trans ?_ (Below.mono Br (by first | (simp; done) | (simp; omega) | omega)))))

set_option maxHeartbeats 4000000 in
set_option maxRecDepth 100000 in
theorem CurveOfCoordinates_c (m : Int) (v : Value) (t : List (List Int)) (u : Value) (l : List Int) (w : World) (hv : RdT w v t) (hu : RdI w u l) :
    Calls Try.prog 32 #[.agg #[.int .i64 m, v], u] w fun e w' => SEnd w w' (crvR m t l) e := by
  obtain ⟨o, c, rfl, hmt, -⟩ := id hv
  obtain ⟨o1, c1, rfl, hml, -⟩ := id hu
  have hml' := hmt.1
  cases h1 : lawB m t
  · have hR : crvR m t l = SR.bad 1 := by simp [crvR, h1]
    rw [hR]
    go_enter Try.func32, Try.ntmps32
    go_wp2_with fail
    (have X0 := ((RB2.mk1 w  (.int .i64 m) (.slice o t.length c) 32).1).below (w' := ((w.alloc (.cells #[.int .i64 m, .slice o t.length c] 32)).alloc (.cells #[.int .i64 0, .slice none 0 0] 34))) (by (repeat (first | exact Below.refl _ _ | (refine Below.setCell ?_ (by first | (simp; done) | (simp; omega) | omega) _) | (refine Below.alloc ?_ (by first | (simp; done) | (simp; omega) | omega) _) | (refine below_drewN ?_ _) | (refine Below.drew ?_)))) (Nat.le_refl _); have R0 := ((RB2.mk2 w (.cells #[.int .i64 m, .slice o t.length c] 32) (.int .i64 0) (.slice none 0 0) 34)).below (w' := ((w.alloc (.cells #[.int .i64 m, .slice o t.length c] 32)).alloc (.cells #[.int .i64 0, .slice none 0 0] 34))) (by (repeat (first | exact Below.refl _ _ | (refine Below.setCell ?_ (by first | (simp; done) | (simp; omega) | omega) _) | (refine Below.alloc ?_ (by first | (simp; done) | (simp; omega) | omega) _) | (refine below_drewN ?_ _) | (refine Below.drew ?_)))) (Nat.le_refl _); have B0 : Below w.heap.size w ((w.alloc (.cells #[.int .i64 m, .slice o t.length c] 32)).alloc (.cells #[.int .i64 0, .slice none 0 0] 34)) := (by (repeat (first | exact Below.refl _ _ | (refine Below.setCell ?_ (by first | (simp; done) | (simp; omega) | omega) _) | (refine Below.alloc ?_ (by first | (simp; done) | (simp; omega) | omega) _) | (refine below_drewN ?_ _) | (refine Below.drew ?_)))); have hv0 := hv.below (w' := ((w.alloc (.cells #[.int .i64 m, .slice o t.length c] 32)).alloc (.cells #[.int .i64 0, .slice none 0 0] 34))) (by (repeat (first | exact Below.refl _ _ | (refine Below.setCell ?_ (by first | (simp; done) | (simp; omega) | omega) _) | (refine Below.alloc ?_ (by first | (simp; done) | (simp; omega) | omega) _) | (refine below_drewN ?_ _) | (refine Below.drew ?_)))) (Nat.le_refl _); generalize (w.alloc (.cells #[.int .i64 m, .slice o t.length c] 32)).alloc (.cells #[.int .i64 0, .slice none 0 0] 34) = w0 at X0 R0 B0 hv0 ⊢)
    (obtain ⟨gqX0, gqX1⟩ := id X0; go_wp2_with fail; refine (IsLaw_c m _ t _ hv0).mono ?_; rw [h1]; rintro e w1 ⟨rfl, hb⟩; (have X1 := X0.below hb (Nat.le_refl _); have R1 := R0.below hb (Nat.le_refl _); have B1 := B0.trans (hb.mono B0.size)); clear gqX0 gqX1; clear hb)
    (obtain ⟨⟨r0, r1⟩, rf⟩ := id R1; go_wp2; exact bodyPost_ret (v := .tuple #[.agg #[.int .i64 0, .slice none 0 0], .int .i64 1]) (by simp [results, Try.results32, go_sem, r0, r1]) rfl ⟨_, rfl, OwI.nil _ _, (by (repeat (first | exact Below.refl _ _ | (refine Below.setCell ?_ (by first | (simp; done) | (simp; omega) | omega) _) | (refine Below.alloc ?_ (by first | (simp; done) | (simp; omega) | omega) _) | (refine below_drewN ?_ _) | (refine Below.drew ?_) | (refine Below.trans ?_ (Below.mono B1 (by first | (simp; done) | (simp; omega) | omega)))))), by simp [SR.bad]⟩)
  · have hp := (lawB_t h1).1
    have hm := pla_m hp
    have hn := pla_n hp
    have HT := Lib.hid (show PlaT m t.length t from ⟨rfl, pla_row hp⟩)
    clear hp
    unfold maxLen at hmt hml
    cases h2 : ((l.length : Int) != (t.length : Int) - 1)
    · have h3 : l.length + 1 = t.length := by have := (bne_eq_false_iff_eq.1 h2); omega
      cases h4 : numsB m l
      · have hR : crvR m t l = SR.bad 2 := by simp [crvR, h1, h2, h4]
        rw [hR]
        go_enter Try.func32, Try.ntmps32
        go_wp2_with fail
        (have X0 := ((RB2.mk1 w  (.int .i64 m) (.slice o t.length c) 32).1).below (w' := ((w.alloc (.cells #[.int .i64 m, .slice o t.length c] 32)).alloc (.cells #[.int .i64 0, .slice none 0 0] 34))) (by (repeat (first | exact Below.refl _ _ | (refine Below.setCell ?_ (by first | (simp; done) | (simp; omega) | omega) _) | (refine Below.alloc ?_ (by first | (simp; done) | (simp; omega) | omega) _) | (refine below_drewN ?_ _) | (refine Below.drew ?_)))) (Nat.le_refl _); have R0 := ((RB2.mk2 w (.cells #[.int .i64 m, .slice o t.length c] 32) (.int .i64 0) (.slice none 0 0) 34)).below (w' := ((w.alloc (.cells #[.int .i64 m, .slice o t.length c] 32)).alloc (.cells #[.int .i64 0, .slice none 0 0] 34))) (by (repeat (first | exact Below.refl _ _ | (refine Below.setCell ?_ (by first | (simp; done) | (simp; omega) | omega) _) | (refine Below.alloc ?_ (by first | (simp; done) | (simp; omega) | omega) _) | (refine below_drewN ?_ _) | (refine Below.drew ?_)))) (Nat.le_refl _); have B0 : Below w.heap.size w ((w.alloc (.cells #[.int .i64 m, .slice o t.length c] 32)).alloc (.cells #[.int .i64 0, .slice none 0 0] 34)) := (by (repeat (first | exact Below.refl _ _ | (refine Below.setCell ?_ (by first | (simp; done) | (simp; omega) | omega) _) | (refine Below.alloc ?_ (by first | (simp; done) | (simp; omega) | omega) _) | (refine below_drewN ?_ _) | (refine Below.drew ?_)))); have hv0 := hv.below (w' := ((w.alloc (.cells #[.int .i64 m, .slice o t.length c] 32)).alloc (.cells #[.int .i64 0, .slice none 0 0] 34))) (by (repeat (first | exact Below.refl _ _ | (refine Below.setCell ?_ (by first | (simp; done) | (simp; omega) | omega) _) | (refine Below.alloc ?_ (by first | (simp; done) | (simp; omega) | omega) _) | (refine below_drewN ?_ _) | (refine Below.drew ?_)))) (Nat.le_refl _); have hu0 := hu.below (w' := ((w.alloc (.cells #[.int .i64 m, .slice o t.length c] 32)).alloc (.cells #[.int .i64 0, .slice none 0 0] 34))) (by (repeat (first | exact Below.refl _ _ | (refine Below.setCell ?_ (by first | (simp; done) | (simp; omega) | omega) _) | (refine Below.alloc ?_ (by first | (simp; done) | (simp; omega) | omega) _) | (refine below_drewN ?_ _) | (refine Below.drew ?_)))) (Nat.le_refl _); generalize (w.alloc (.cells #[.int .i64 m, .slice o t.length c] 32)).alloc (.cells #[.int .i64 0, .slice none 0 0] 34) = w0 at X0 R0 B0 hv0 hu0 ⊢)
        (obtain ⟨gqX0, gqX1⟩ := id X0; go_wp2_with fail; refine (IsLaw_c m _ t _ hv0).mono ?_; rw [h1]; rintro e w1 ⟨rfl, hb⟩; (have X1 := X0.below hb (Nat.le_refl _); have R1 := R0.below hb (Nat.le_refl _); have hu1 := hu0.below hb (Nat.le_refl _); have B1 := B0.trans (hb.mono B0.size)); clear gqX0 gqX1; clear hb)
        (obtain ⟨gqX0, gqX1⟩ := id X1; go_wp2_with fail; refine (degreeP_c m o t.length c _ hml').mono ?_; rintro e w2 ⟨rfl, hb⟩; (have X2 := X1.below hb (Nat.le_refl _); have R2 := R1.below hb (Nat.le_refl _); have hu2 := hu1.below hb (Nat.le_refl _); have B2 := B1.trans (hb.mono B1.size)); clear gqX0 gqX1; clear hb)
        obtain ⟨x0, x1⟩ := id X2
        go_wp2_with fail
        refine (allI_c 93 _ (fun x => inB x 0 (m - 1)) _ l _ hu2 crv1_callable (fun x hx w1 hb => crv1_c m x _ _ (by omega) (by omega) (keep_cell hb (Nat.le_refl _) x0))).mono ?_
        rw [show l.all (fun x => inB x 0 (m - 1)) = false from h4]
        rintro e w3 ⟨rfl, hb⟩
        (have X3 := X2.below hb (Nat.le_refl _); have R3 := R2.below hb (Nat.le_refl _); have B3 := B2.trans (hb.mono B2.size))
        clear x0 x1 hb
        (obtain ⟨⟨r0, r1⟩, rf⟩ := id R3; go_wp2; exact bodyPost_ret (v := .tuple #[.agg #[.int .i64 0, .slice none 0 0], .int .i64 2]) (by simp [results, Try.results32, go_sem, r0, r1]) rfl ⟨_, rfl, OwI.nil _ _, (by (repeat (first | exact Below.refl _ _ | (refine Below.setCell ?_ (by first | (simp; done) | (simp; omega) | omega) _) | (refine Below.alloc ?_ (by first | (simp; done) | (simp; omega) | omega) _) | (refine below_drewN ?_ _) | (refine Below.drew ?_) | (refine Below.trans ?_ (Below.mono B3 (by first | (simp; done) | (simp; omega) | omega)))))), by simp [SR.bad]⟩)
      · exact CurveOfCoordinates_g m _ t _ l w hv hu h1 h2 h4
    · have hR : crvR m t l = SR.bad 2 := by simp [crvR, h1, h2]
      rw [hR]
      go_enter Try.func32, Try.ntmps32
      go_wp2_with fail
      (have X0 := ((RB2.mk1 w  (.int .i64 m) (.slice o t.length c) 32).1).below (w' := ((w.alloc (.cells #[.int .i64 m, .slice o t.length c] 32)).alloc (.cells #[.int .i64 0, .slice none 0 0] 34))) (by (repeat (first | exact Below.refl _ _ | (refine Below.setCell ?_ (by first | (simp; done) | (simp; omega) | omega) _) | (refine Below.alloc ?_ (by first | (simp; done) | (simp; omega) | omega) _) | (refine below_drewN ?_ _) | (refine Below.drew ?_)))) (Nat.le_refl _); have R0 := ((RB2.mk2 w (.cells #[.int .i64 m, .slice o t.length c] 32) (.int .i64 0) (.slice none 0 0) 34)).below (w' := ((w.alloc (.cells #[.int .i64 m, .slice o t.length c] 32)).alloc (.cells #[.int .i64 0, .slice none 0 0] 34))) (by (repeat (first | exact Below.refl _ _ | (refine Below.setCell ?_ (by first | (simp; done) | (simp; omega) | omega) _) | (refine Below.alloc ?_ (by first | (simp; done) | (simp; omega) | omega) _) | (refine below_drewN ?_ _) | (refine Below.drew ?_)))) (Nat.le_refl _); have B0 : Below w.heap.size w ((w.alloc (.cells #[.int .i64 m, .slice o t.length c] 32)).alloc (.cells #[.int .i64 0, .slice none 0 0] 34)) := (by (repeat (first | exact Below.refl _ _ | (refine Below.setCell ?_ (by first | (simp; done) | (simp; omega) | omega) _) | (refine Below.alloc ?_ (by first | (simp; done) | (simp; omega) | omega) _) | (refine below_drewN ?_ _) | (refine Below.drew ?_)))); have hv0 := hv.below (w' := ((w.alloc (.cells #[.int .i64 m, .slice o t.length c] 32)).alloc (.cells #[.int .i64 0, .slice none 0 0] 34))) (by (repeat (first | exact Below.refl _ _ | (refine Below.setCell ?_ (by first | (simp; done) | (simp; omega) | omega) _) | (refine Below.alloc ?_ (by first | (simp; done) | (simp; omega) | omega) _) | (refine below_drewN ?_ _) | (refine Below.drew ?_)))) (Nat.le_refl _); generalize (w.alloc (.cells #[.int .i64 m, .slice o t.length c] 32)).alloc (.cells #[.int .i64 0, .slice none 0 0] 34) = w0 at X0 R0 B0 hv0 ⊢)
      (obtain ⟨gqX0, gqX1⟩ := id X0; go_wp2_with fail; refine (IsLaw_c m _ t _ hv0).mono ?_; rw [h1]; rintro e w1 ⟨rfl, hb⟩; (have X1 := X0.below hb (Nat.le_refl _); have R1 := R0.below hb (Nat.le_refl _); have B1 := B0.trans (hb.mono B0.size)); clear gqX0 gqX1; clear hb)
      (obtain ⟨gqX0, gqX1⟩ := id X1; go_wp2_with fail; refine (degreeP_c m o t.length c _ hml').mono ?_; rintro e w2 ⟨rfl, hb⟩; (have X2 := X1.below hb (Nat.le_refl _); have R2 := R1.below hb (Nat.le_refl _); have B2 := B1.trans (hb.mono B1.size)); clear gqX0 gqX1; clear hb)
      (obtain ⟨⟨r0, r1⟩, rf⟩ := id R2; go_wp2; exact bodyPost_ret (v := .tuple #[.agg #[.int .i64 0, .slice none 0 0], .int .i64 2]) (by simp [results, Try.results32, go_sem, r0, r1]) rfl ⟨_, rfl, OwI.nil _ _, (by (repeat (first | exact Below.refl _ _ | (refine Below.setCell ?_ (by first | (simp; done) | (simp; omega) | omega) _) | (refine Below.alloc ?_ (by first | (simp; done) | (simp; omega) | omega) _) | (refine below_drewN ?_ _) | (refine Below.drew ?_) | (refine Below.trans ?_ (Below.mono B2 (by first | (simp; done) | (simp; omega) | omega)))))), by simp [SR.bad]⟩)
end Go.Proofs.Ytdnkadlondediaa
