/- Lemmas of WeiE. -/
import Derived.Test.YtmmneicblcjkjaaQSerN2
import Derived.Test.YtmmneicblcjkjaaQFlR
import Derived.Test.YtmmneicblcjkjaaQWeiT
set_option linter.unusedSimpArgs false
set_option linter.unusedVariables false
namespace Go.Proofs.Ytmmneicblcjkjaa
open Go.RowKit

set_option maxHeartbeats 4000000 in
set_option maxRecDepth 100000 in
theorem weierstrass_c (m d : Int) (N : Nat) (v : Value) (ls : List Int) (w : World) (hd : d + 1 = (N : Int)) (hv : RdI w v ls) (hl : ls.length = 5) (h2 : 2 ≤ N) (hN : N ≤ 1000) (hm : 2 ≤ m) (hm' : m ≤ 10000) (hx : ∀ x ∈ ls, 0 ≤ x ∧ x < m) :
    Calls Try.prog 31 #[.int .i64 m, .int .i64 d, v] w fun e w' => SVEnd w w' m (weiI m N (at0 ls) (N - 1)) e := by
  obtain ⟨o, c, rfl, hmx, -⟩ := id hv
  obtain ⟨bl, fl, rfl, -⟩ := hv.cells (by omega)
  have r0 := at0_range (show 0 < m by omega) hx 0
  have r1 := at0_range (show 0 < m by omega) hx 1
  have r2 := at0_range (show 0 < m by omega) hx 2
  have r3 := at0_range (show 0 < m by omega) hx 3
  have r4 := at0_range (show 0 < m by omega) hx 4
  have HL := Lib.hid hl
  rw [hl] at hv ⊢
  clear hl hmx
  have hd1 : d = (N : Int) - 1 := by omega
  subst hd1
  clear hd
  go_enter Try.func31, Try.ntmps31
  go_wp2_with fail
  (have R0 := ((RB2.mk1 w  (.int .i64 0) (.slice none 0 0) 51)).below (w' := (w.alloc (.cells #[.int .i64 0, .slice none 0 0] 51))) (by (repeat (first | exact Below.refl _ _ | (refine Below.setCell ?_ (by first | (simp; done) | (simp; omega) | omega) _) | (refine Below.alloc ?_ (by first | (simp; done) | (simp; omega) | omega) _) | (refine below_drewN ?_ _) | (refine Below.drew ?_)))) (Nat.le_refl _); have B0 : Below w.heap.size w (w.alloc (.cells #[.int .i64 0, .slice none 0 0] 51)) := (by (repeat (first | exact Below.refl _ _ | (refine Below.setCell ?_ (by first | (simp; done) | (simp; omega) | omega) _) | (refine Below.alloc ?_ (by first | (simp; done) | (simp; omega) | omega) _) | (refine below_drewN ?_ _) | (refine Below.drew ?_)))); have hv0 := hv.below (w' := (w.alloc (.cells #[.int .i64 0, .slice none 0 0] 51))) (by (repeat (first | exact Below.refl _ _ | (refine Below.setCell ?_ (by first | (simp; done) | (simp; omega) | omega) _) | (refine Below.alloc ?_ (by first | (simp; done) | (simp; omega) | omega) _) | (refine below_drewN ?_ _) | (refine Below.drew ?_)))) (Nat.le_refl _); generalize w.alloc (.cells #[.int .i64 0, .slice none 0 0] 51) = w0 at R0 B0 hv0 ⊢)
  have HR0 := R0.1.lt
  obtain ⟨z, hz⟩ : ∃ z, z = varL N := ⟨_, rfl⟩
  have HZ := LisN.var hm N
  rw [← hz] at HZ
  have HZd := Lib.hid hz
  refine (variable_c m _ N _ (by omega) h2 (by omega)).mono ?_
  rintro e w1 ⟨v1, rfl, h1, hb⟩
  obtain ⟨oz, cz, rfl⟩ := h1.shapeN (n := N) (varL_len _)
  rw [← hz] at h1
  clear hz
  (have R1 := R0.below hb (Nat.le_refl _); have hv1 := hv0.below hb (Nat.le_refl _); have B1 := B0.trans (hb.mono B0.size); clear R0 hv0 B0)
  have Z1 := h1.rd
  have R1lt := R1.1.lt
  clear h1 hb
  go_wp2_with fail
  (have hb : Below w1.heap.size w1 (w1.alloc (.cells #[.int .i64 m, .slice oz N cz] 51)) := (by (repeat (first | exact Below.refl _ _ | (refine Below.setCell ?_ (by first | (simp; done) | (simp; omega) | omega) _) | (refine Below.alloc ?_ (by first | (simp; done) | (simp; omega) | omega) _) | (refine below_drewN ?_ _) | (refine Below.drew ?_)))); have R2 := R1.below hb (Nat.le_refl _); have hv2 := hv1.below hb (Nat.le_refl _); have Z2 := Z1.below hb (Nat.le_refl _); have B2 := B1.trans (hb.mono B1.size); clear R1 hv1 Z1 B1; have ZB2 := RB2.mk1 w1 (.int .i64 m) (.slice oz N cz) 51; have hl_w2 := hb.size; clear hb; generalize w1.alloc (.cells #[.int .i64 m, .slice oz N cz] 51) = w2 at ZB2 B2 hl_w2 R2 hv2 Z2  ⊢)
  refine (times_n m m N _ _ z z _ Z2 Z2 (by omega) hN hm hm' HZ HZ).mono ?_
  rintro e w3 ⟨v3, rfl, h3, hb⟩
  obtain ⟨q, hq⟩ : ∃ q, q = timesL m N z z := ⟨_, rfl⟩
  have HQ := LisN.times (n := N) (show 0 < m by omega) z z
  rw [← hq] at HQ h3
  have HQd := Lib.hid hq
  clear hq
  obtain ⟨oq, cq, rfl⟩ := h3.shapeN (n := N) HQ.1
  (have R3 := R2.below hb (Nat.le_refl _); have hv3 := hv2.below hb (Nat.le_refl _); have Z3 := Z2.below hb (Nat.le_refl _); have ZB3 := ZB2.below hb (Nat.le_refl _); have B3 := B2.trans (hb.mono B2.size); clear R2 hv2 Z2 ZB2 B2)
  have Q3 := h3.rd
  have hb3 := hb.size
  have lZ := ZB3.1.lt
  clear h3 hb
  obtain ⟨y0, y1⟩ := id ZB3.1
  go_wp2_with fail
  clear y0 y1
  (have hb : Below w3.heap.size w3 (w3.alloc (.cells #[.int .i64 m, .slice oq N cq] 51)) := (by (repeat (first | exact Below.refl _ _ | (refine Below.setCell ?_ (by first | (simp; done) | (simp; omega) | omega) _) | (refine Below.alloc ?_ (by first | (simp; done) | (simp; omega) | omega) _) | (refine below_drewN ?_ _) | (refine Below.drew ?_)))); have R4 := R3.below hb (Nat.le_refl _); have hv4 := hv3.below hb (Nat.le_refl _); have Z4 := Z3.below hb (Nat.le_refl _); have Q4 := Q3.below hb (Nat.le_refl _); have ZB4 := ZB3.below hb (Nat.le_refl _); have B4 := B3.trans (hb.mono B3.size); clear R3 hv3 Z3 Q3 ZB3 B3; have QB4 := RB2.mk1 w3 (.int .i64 m) (.slice oq N cq) 51; have hl_w4 := hb.size; clear hb; generalize w3.alloc (.cells #[.int .i64 m, .slice oq N cq] 51) = w4 at QB4 B4 hl_w4 R4 hv4 Z4 Q4 ZB4  ⊢)
  refine (times_n m m N _ _ q z _ Q4 Z4 (by omega) hN hm hm' HQ HZ).mono ?_
  rintro e w5 ⟨v5, rfl, h5, hb⟩
  obtain ⟨p, hp⟩ : ∃ p, p = timesL m N q z := ⟨_, rfl⟩
  have HC := LisN.times (n := N) (show 0 < m by omega) q z
  rw [← hp] at HC h5
  have HCd := Lib.hid hp
  clear hp
  obtain ⟨op, cp, rfl⟩ := h5.shapeN (n := N) HC.1
  (have R5 := R4.below hb (Nat.le_refl _); have hv5 := hv4.below hb (Nat.le_refl _); have Z5 := Z4.below hb (Nat.le_refl _); have Q5 := Q4.below hb (Nat.le_refl _); have ZB5 := ZB4.below hb (Nat.le_refl _); have QB5 := QB4.below hb (Nat.le_refl _); have B5 := B4.trans (hb.mono B4.size); clear R4 hv4 Z4 Q4 ZB4 QB4 B4)
  have P5 := h5.rd
  clear h5 hb
  go_wp2_with fail
  (have hb : Below w5.heap.size w5 (w5.alloc (.cells #[.int .i64 m, .slice op N cp] 51)) := (by (repeat (first | exact Below.refl _ _ | (refine Below.setCell ?_ (by first | (simp; done) | (simp; omega) | omega) _) | (refine Below.alloc ?_ (by first | (simp; done) | (simp; omega) | omega) _) | (refine below_drewN ?_ _) | (refine Below.drew ?_)))); have R6 := R5.below hb (Nat.le_refl _); have hv6 := hv5.below hb (Nat.le_refl _); have Z6 := Z5.below hb (Nat.le_refl _); have Q6 := Q5.below hb (Nat.le_refl _); have P6 := P5.below hb (Nat.le_refl _); have ZB6 := ZB5.below hb (Nat.le_refl _); have QB6 := QB5.below hb (Nat.le_refl _); have B6 := B5.trans (hb.mono B5.size); clear R5 hv5 Z5 Q5 P5 ZB5 QB5 B5; have PB6 := RB2.mk1 w5 (.int .i64 m) (.slice op N cp) 51; have hl_w6 := hb.size; clear hb; generalize w5.alloc (.cells #[.int .i64 m, .slice op N cp] 51) = w6 at PB6 B6 hl_w6 R6 hv6 Z6 Q6 P6 ZB6 QB6  ⊢)
  refine (zero_c m _ N _ (by omega) (by omega)).mono ?_
  rintro e w7 ⟨v7, rfl, h7, hb⟩
  obtain ⟨ow, cw, rfl⟩ := h7.shapeN (n := N) (by simp)
  have B6s := B6.size
  have lZ6 := ZB6.1.lt
  (have R7 := R6.below hb (Nat.le_refl _); have hv7 := hv6.below hb (Nat.le_refl _); have Z7 := Z6.below hb (Nat.le_refl _); have Q7 := Q6.below hb (Nat.le_refl _); have P7 := P6.below hb (Nat.le_refl _); have ZB7 := ZB6.below hb (Nat.le_refl _); have QB7 := QB6.below hb (Nat.le_refl _); have PB7 := PB6.below hb (Nat.le_refl _); have B7 := B6.trans (hb.mono B6.size); clear R6 hv6 Z6 Q6 P6 ZB6 QB6 PB6 B6)
  have hw7 := h7.mono (B' := w1.heap.size) (by omega)
  have hlw := hb.size
  clear h7 hb
  have hBb := Bel.refl w7
  have B7s := B7.size
  have lR := R7.1.lt
  have lZ := ZB7.1.lt
  have lQ := QB7.1.lt
  have lP := PB7.1.lt
  have hZW : w1.heap.size < w7.heap.size := by have := ZB7.1.lt; omega
  go_wp2_with fail
  (have hb : Below w7.heap.size w7 (w7.alloc (.cells #[.int .i64 m, .slice ow N cw] 51)) := (by (repeat (first | exact Below.refl _ _ | (refine Below.setCell ?_ (by first | (simp; done) | (simp; omega) | omega) _) | (refine Below.alloc ?_ (by first | (simp; done) | (simp; omega) | omega) _) | (refine below_drewN ?_ _) | (refine Below.drew ?_)))); have R8 := R7.below hb (Nat.le_refl _); have hw7 := hw7.alloc (.cells #[.int .i64 m, .slice ow N cw] 51); have hBb := hBb.alloc (.cells #[.int .i64 m, .slice ow N cw] 51); have B8 := B7.trans (hb.mono B7.size); have WB := RB2.mk1 w7 (.int .i64 m) (.slice ow N cw) 51; have hl_w8 := hb.size; clear hb; generalize w7.alloc (.cells #[.int .i64 m, .slice ow N cw] 51) = w8 at WB B8 hl_w8 R8 hw7 hBb ⊢)
  go_wp2_with fail
  go_loopw [26] (fun i wr => ∃ (k : Nat) (ov : Option Addr) (cv : Nat), k + 1 ≤ N ∧ i = .int .i64 (k : Int) ∧ OwI wr w1.heap.size (.slice ov N cv) (weiI m N (at0 ls) k) ∧ RB2 wr w7.heap.size (.int .i64 m) (.slice ov N cv) ∧ Below w7.heap.size w7 wr) (fun i _ => N - (intOf i).toNat)
  case atStart => exact ⟨0, ow, cw, by omega, rfl, hw7, WB, hBb⟩
  case round =>
    obtain ⟨k, ov, cv, hk, rfl, hO, OO, hg⟩ := hrel
    clear hw7 WB hBb B8 R8 hl_w8
    have HWd := Lib.hid (show weiI m N (at0 ls) (k + 1) = weiStep m N (at0 ls) (weiI m N (at0 ls) k) from rfl)
    have HW : LisN m N (weiI m N (at0 ls) k) := ⟨weiI_len _ _ _ _, weiI_range (by omega) _ _ _⟩
    have HWe := Lib.hid (show k + 1 = N → weiI m N (at0 ls) k = weiI m N (at0 ls) (N - 1) from fun h => by rw [← h]; rfl)
    generalize weiI m N (at0 ls) k = W at hO HWd HW HWe
    have ZBr := ZB7.below hg (Nat.le_refl _)
    have QBr := QB7.below hg (Nat.le_refl _)
    have PBr := PB7.below hg (Nat.le_refl _)
    have Rr := R7.below hg (Nat.le_refl _)
    have hvr := hv7.below hg (Nat.le_refl _)
    have Zr := Z7.below hg (Nat.le_refl _)
    have Qr := Q7.below hg (Nat.le_refl _)
    have Pr := P7.below hg (Nat.le_refl _)
    have Wr := hO.rd
    have hgs := hg.size
    obtain ⟨⟨z0, z1⟩, zf⟩ := id OO
    by_cases hlt : k + 1 < N
    · have i0 : (k : Int) < (N : Int) - 1 := by omega
      go_wp2_with fail
      clear z0 z1 zf
      refine (times_n m m N _ _ W W _ Wr Wr (by omega) hN hm hm' HW HW).mono ?_
      rintro e w9 ⟨v9, rfl, h9, hb⟩
      obtain ⟨sq, hs⟩ : ∃ sq, sq = timesL m N W W := ⟨_, rfl⟩
      have HS := LisN.times (n := N) (show 0 < m by omega) W W
      rw [← hs] at HS h9
      have HSd := Lib.hid hs
      clear hs
      obtain ⟨os, cs, rfl⟩ := h9.shapeN (n := N) HS.1
      have B9 : Below w.heap.size w w9 := (B7.trans (hg.mono B7s)).trans (hb.mono (by omega))
      have ZB9 := ZBr.below hb (Nat.le_refl _)
      have QB9 := QBr.below hb (Nat.le_refl _)
      have PB9 := PBr.below hb (Nat.le_refl _)
      have OO9 := OO.below hb (Nat.le_refl _)
      have R9 := Rr.below hb (Nat.le_refl _)
      have hv9 := hvr.below hb (Nat.le_refl _)
      have Z9 := Zr.below hb (Nat.le_refl _)
      have Q9 := Qr.below hb (Nat.le_refl _)
      have P9 := Pr.below hb (Nat.le_refl _)
      have W9 := Wr.below hb (Nat.le_refl _)
      have S9 := h9.rd
      have hg9 : Bel w7 w9 := hg.trans (hb.mono hgs)
      have hs9 := hb.size
      clear hO h9 hb Zr Qr Pr Wr hvr Rr OO PBr QBr ZBr hg
      go_wp2_with fail
      (have hb : Below w9.heap.size w9 (w9.alloc (.cells #[.int .i64 m, .slice os N cs] 51)) := (by (repeat (first | exact Below.refl _ _ | (refine Below.setCell ?_ (by first | (simp; done) | (simp; omega) | omega) _) | (refine Below.alloc ?_ (by first | (simp; done) | (simp; omega) | omega) _) | (refine below_drewN ?_ _) | (refine Below.drew ?_)))); have R10 := R9.below hb (Nat.le_refl _); have hv10 := hv9.below hb (Nat.le_refl _); have Z10 := Z9.below hb (Nat.le_refl _); have Q10 := Q9.below hb (Nat.le_refl _); have P10 := P9.below hb (Nat.le_refl _); have W10 := W9.below hb (Nat.le_refl _); have S10 := S9.below hb (Nat.le_refl _); have ZB10 := ZB9.below hb (Nat.le_refl _); have QB10 := QB9.below hb (Nat.le_refl _); have PB10 := PB9.below hb (Nat.le_refl _); have OO10 := OO9.below hb (Nat.le_refl _); have hg9 := hg9.alloc (.cells #[.int .i64 m, .slice os N cs] 51); have B10 := B9.trans (hb.mono B9.size); clear R9 hv9 Z9 Q9 P9 W9 S9 ZB9 QB9 PB9 OO9 B9; have SB10 := RB2.mk1 w9 (.int .i64 m) (.slice os N cs) 51; have hl_w10 := hb.size; clear hb; generalize w9.alloc (.cells #[.int .i64 m, .slice os N cs] 51) = w10 at SB10 B10 hl_w10 R10 hv10 Z10 Q10 P10 W10 S10 ZB10 QB10 PB10 OO10 hg9 ⊢)
      have hg10 := hg9
      clear hg9
      go_cut [12] from 31 to 53 (fun s u => ∃ (b : Nat) (o : Option Addr) (c : Nat), s = .pointer (some ⟨b, 0, none⟩) ∧ RB2 u b (.int .i64 m) (.slice o N c) ∧ RdI u (.slice o N c) (addL m N (addL m N (addL m N p (scaleL m (at0 ls 0) (timesL m N z W))) (scaleL m (at0 ls 1) (timesL m N q W))) (scaleL m (at0 ls 2) sq)) ∧ Below w10.heap.size w10 u)
      case first =>
        as_aux_lemma =>
        have hd : Below w10.heap.size w10 w10.drew := (Below.refl _ _).drew
        have hsd := hd.size
        obtain ⟨qz_PB101_0, qz_PB101_1⟩ := PB10.1.below hd (Nat.le_refl _)
        obtain ⟨qz_ZB101_0, qz_ZB101_1⟩ := ZB10.1.below hd (Nat.le_refl _)
        obtain ⟨qz_OO101_0, qz_OO101_1⟩ := OO10.1.below hd (Nat.le_refl _)
        obtain ⟨qz_QB101_0, qz_QB101_1⟩ := QB10.1.below hd (Nat.le_refl _)
        obtain ⟨qz_SB101_0, qz_SB101_1⟩ := SB10.1.below hd (Nat.le_refl _)
        have qz_a0 := (((hv10).below hd (Nat.le_refl _))).cellz (some_at0 (show 0 < ls.length by have := HL.out; omega))
        have qz_a1 := (((hv10).below hd (Nat.le_refl _))).cell0 (some_at0 (show 1 < ls.length by have := HL.out; omega))
        have qz_a2 := (((hv10).below hd (Nat.le_refl _))).cell0 (some_at0 (show 2 < ls.length by have := HL.out; omega))
        refine wp_region_K (S := fun w' => w'.cell? ⟨w5.heap.size, 0, none⟩ = some (.int .i64 m) ∧ w'.cell? ⟨w5.heap.size, 1, none⟩ = some (.slice op N cp) ∧ w'.cell? ⟨w1.heap.size, 0, none⟩ = some (.int .i64 m) ∧ w'.cell? ⟨w1.heap.size, 1, none⟩ = some (.slice oz N cz) ∧ w'.cell? ⟨w7.heap.size, 0, none⟩ = some (.int .i64 m) ∧ w'.cell? ⟨w7.heap.size, 1, none⟩ = some (.slice ov N cv) ∧ w'.cell? ⟨w3.heap.size, 0, none⟩ = some (.int .i64 m) ∧ w'.cell? ⟨w3.heap.size, 1, none⟩ = some (.slice oq N cq) ∧ w'.cell? ⟨w9.heap.size, 0, none⟩ = some (.int .i64 m) ∧ w'.cell? ⟨w9.heap.size, 1, none⟩ = some (.slice os N cs) ∧ w'.cell? ⟨bl, fl, none⟩ = some (.int .i64 (at0 ls 0)) ∧ w'.cell? ⟨bl, fl + 1, none⟩ = some (.int .i64 (at0 ls 1)) ∧ w'.cell? ⟨bl, fl + 2, none⟩ = some (.int .i64 (at0 ls 2))) [24] (by as_aux_lemma => kernel_rfl) ?_
        have hHeld : (fun w' : World => w'.cell? ⟨w5.heap.size, 0, none⟩ = some (.int .i64 m) ∧ w'.cell? ⟨w5.heap.size, 1, none⟩ = some (.slice op N cp) ∧ w'.cell? ⟨w1.heap.size, 0, none⟩ = some (.int .i64 m) ∧ w'.cell? ⟨w1.heap.size, 1, none⟩ = some (.slice oz N cz) ∧ w'.cell? ⟨w7.heap.size, 0, none⟩ = some (.int .i64 m) ∧ w'.cell? ⟨w7.heap.size, 1, none⟩ = some (.slice ov N cv) ∧ w'.cell? ⟨w3.heap.size, 0, none⟩ = some (.int .i64 m) ∧ w'.cell? ⟨w3.heap.size, 1, none⟩ = some (.slice oq N cq) ∧ w'.cell? ⟨w9.heap.size, 0, none⟩ = some (.int .i64 m) ∧ w'.cell? ⟨w9.heap.size, 1, none⟩ = some (.slice os N cs) ∧ w'.cell? ⟨bl, fl, none⟩ = some (.int .i64 (at0 ls 0)) ∧ w'.cell? ⟨bl, fl + 1, none⟩ = some (.int .i64 (at0 ls 1)) ∧ w'.cell? ⟨bl, fl + 2, none⟩ = some (.int .i64 (at0 ls 2))) w10.drew := by go_keep
        refine' wpAnyK_takeL (i := 0) (v := _) rfl (by as_aux_lemma => kernel_rfl) (by as_aux_lemma => kernel_rfl) (by as_aux_lemma => kernel_rfl) (by as_aux_lemma => kernel_rfl) (fun _ _ _ h => h) (Or.inl ⟨by rfl, ?yT1⟩) hHeld ?rT1
        case yT1 => (intro w' hSw; (try dsimp only at hSw); go_simp; try with_reducible rfl)
        try simp only [List.getElem_toArray, List.getElem_cons_zero, List.getElem_cons_succ, Act.put, List.setIfInBounds_toArray, List.set_cons_zero, List.set_cons_succ]
        refine' wpAnyK_takeL (i := 1) (v := _) rfl (by as_aux_lemma => kernel_rfl) (by as_aux_lemma => kernel_rfl) (by as_aux_lemma => kernel_rfl) (by as_aux_lemma => kernel_rfl) (fun _ _ _ h => h) (Or.inl ⟨by rfl, ?yT2⟩) hHeld ?rT2
        case yT2 => (intro w' hSw; (try dsimp only at hSw); go_simp; try with_reducible rfl)
        try simp only [List.getElem_toArray, List.getElem_cons_zero, List.getElem_cons_succ, Act.put, List.setIfInBounds_toArray, List.set_cons_zero, List.set_cons_succ]
        refine' wpAnyK_takeL (i := 2) (v := _) rfl (by as_aux_lemma => kernel_rfl) (by as_aux_lemma => kernel_rfl) (by as_aux_lemma => kernel_rfl) (by as_aux_lemma => kernel_rfl) (fun _ _ _ h => h) (Or.inl ⟨by rfl, ?yT3⟩) hHeld ?rT3
        case yT3 => (intro w' hSw; (try dsimp only at hSw); go_simp; try with_reducible rfl)
        try simp only [List.getElem_toArray, List.getElem_cons_zero, List.getElem_cons_succ, Act.put, List.setIfInBounds_toArray, List.set_cons_zero, List.set_cons_succ]
        refine' wpAnyK_takeL (i := 4) (v := _) rfl (by as_aux_lemma => kernel_rfl) (by as_aux_lemma => kernel_rfl) (by as_aux_lemma => kernel_rfl) (by as_aux_lemma => kernel_rfl) (fun _ _ _ h => h) (Or.inl ⟨by rfl, ?yT4⟩) hHeld ?rT4
        case yT4 => (intro w' hSw; (try dsimp only at hSw); go_simp; try with_reducible rfl)
        try simp only [List.getElem_toArray, List.getElem_cons_zero, List.getElem_cons_succ, Act.put, List.setIfInBounds_toArray, List.set_cons_zero, List.set_cons_succ]
        refine' wpAnyK_takeL (i := 5) (v := _) rfl (by as_aux_lemma => kernel_rfl) (by as_aux_lemma => kernel_rfl) (by as_aux_lemma => kernel_rfl) (by as_aux_lemma => kernel_rfl) (fun _ _ _ h => h) (Or.inl ⟨by rfl, ?yT5⟩) hHeld ?rT5
        case yT5 => (intro w' hSw; (try dsimp only at hSw); go_simp; try with_reducible rfl)
        try simp only [List.getElem_toArray, List.getElem_cons_zero, List.getElem_cons_succ, Act.put, List.setIfInBounds_toArray, List.set_cons_zero, List.set_cons_succ]
        refine' wpAnyK_takeL (i := 6) (v := _) rfl (by as_aux_lemma => kernel_rfl) (by as_aux_lemma => kernel_rfl) (by as_aux_lemma => kernel_rfl) (by as_aux_lemma => kernel_rfl) (fun _ _ _ h => h) (Or.inl ⟨by rfl, ?yT6⟩) hHeld ?rT6
        case yT6 => (intro w' hSw; (try dsimp only at hSw); go_simp; try with_reducible rfl)
        try simp only [List.getElem_toArray, List.getElem_cons_zero, List.getElem_cons_succ, Act.put, List.setIfInBounds_toArray, List.set_cons_zero, List.set_cons_succ]
        refine' wpAnyK_takeL (i := 9) (v := _) rfl (by as_aux_lemma => kernel_rfl) (by as_aux_lemma => kernel_rfl) (by as_aux_lemma => kernel_rfl) (by as_aux_lemma => kernel_rfl) (fun _ _ _ h => h) (Or.inl ⟨by rfl, ?yT7⟩) hHeld ?rT7
        case yT7 => (intro w' hSw; (try dsimp only at hSw); go_simp; try with_reducible rfl)
        try simp only [List.getElem_toArray, List.getElem_cons_zero, List.getElem_cons_succ, Act.put, List.setIfInBounds_toArray, List.set_cons_zero, List.set_cons_succ]
        refine' wpAnyK_takeL (i := 10) (v := _) rfl (by as_aux_lemma => kernel_rfl) (by as_aux_lemma => kernel_rfl) (by as_aux_lemma => kernel_rfl) (by as_aux_lemma => kernel_rfl) (fun _ _ _ h => h) (Or.inl ⟨by rfl, ?yT8⟩) hHeld ?rT8
        case yT8 => (intro w' hSw; (try dsimp only at hSw); go_simp; try with_reducible rfl)
        try simp only [List.getElem_toArray, List.getElem_cons_zero, List.getElem_cons_succ, Act.put, List.setIfInBounds_toArray, List.set_cons_zero, List.set_cons_succ]
        refine' wpAnyK_takeL (i := 12) (v := _) rfl (by as_aux_lemma => kernel_rfl) (by as_aux_lemma => kernel_rfl) (by as_aux_lemma => kernel_rfl) (by as_aux_lemma => kernel_rfl) (fun _ _ _ h => h) (Or.inl ⟨by rfl, ?yT9⟩) hHeld ?rT9
        case yT9 => (intro w' hSw; (try dsimp only at hSw); go_simp; try with_reducible rfl)
        try simp only [List.getElem_toArray, List.getElem_cons_zero, List.getElem_cons_succ, Act.put, List.setIfInBounds_toArray, List.set_cons_zero, List.set_cons_succ]
        refine' wpAnyK_takeL (i := 13) (v := _) rfl (by as_aux_lemma => kernel_rfl) (by as_aux_lemma => kernel_rfl) (by as_aux_lemma => kernel_rfl) (by as_aux_lemma => kernel_rfl) (fun _ _ _ h => h) (Or.inl ⟨by rfl, ?yT10⟩) hHeld ?rT10
        case yT10 => (intro w' hSw; (try dsimp only at hSw); go_simp; try with_reducible rfl)
        try simp only [List.getElem_toArray, List.getElem_cons_zero, List.getElem_cons_succ, Act.put, List.setIfInBounds_toArray, List.set_cons_zero, List.set_cons_succ]
        refine' wpAnyK_takeL (i := 14) (v := _) rfl (by as_aux_lemma => kernel_rfl) (by as_aux_lemma => kernel_rfl) (by as_aux_lemma => kernel_rfl) (by as_aux_lemma => kernel_rfl) (fun _ _ _ h => h) (Or.inl ⟨by rfl, ?yT11⟩) hHeld ?rT11
        case yT11 => (intro w' hSw; (try dsimp only at hSw); go_simp; try with_reducible rfl)
        try simp only [List.getElem_toArray, List.getElem_cons_zero, List.getElem_cons_succ, Act.put, List.setIfInBounds_toArray, List.set_cons_zero, List.set_cons_succ]
        refine' wpAnyK_takeL (i := 17) (v := _) rfl (by as_aux_lemma => kernel_rfl) (by as_aux_lemma => kernel_rfl) (by as_aux_lemma => kernel_rfl) (by as_aux_lemma => kernel_rfl) (fun _ _ _ h => h) (Or.inl ⟨by rfl, ?yT12⟩) hHeld ?rT12
        case yT12 => (intro w' hSw; (try dsimp only at hSw); go_simp; try with_reducible rfl)
        try simp only [List.getElem_toArray, List.getElem_cons_zero, List.getElem_cons_succ, Act.put, List.setIfInBounds_toArray, List.set_cons_zero, List.set_cons_succ]
        refine' wpAnyK_takeL (i := 18) (v := _) rfl (by as_aux_lemma => kernel_rfl) (by as_aux_lemma => kernel_rfl) (by as_aux_lemma => kernel_rfl) (by as_aux_lemma => kernel_rfl) (fun _ _ _ h => h) (Or.inl ⟨by rfl, ?yT13⟩) hHeld ?rT13
        case yT13 => (intro w' hSw; (try dsimp only at hSw); go_simp; try with_reducible rfl)
        try simp only [List.getElem_toArray, List.getElem_cons_zero, List.getElem_cons_succ, Act.put, List.setIfInBounds_toArray, List.set_cons_zero, List.set_cons_succ]
        refine' wpAnyK_takeL (i := 19) (v := _) rfl (by as_aux_lemma => kernel_rfl) (by as_aux_lemma => kernel_rfl) (by as_aux_lemma => kernel_rfl) (by as_aux_lemma => kernel_rfl) (fun _ _ _ h => h) (Or.inl ⟨by rfl, ?yT14⟩) hHeld ?rT14
        case yT14 => (intro w' hSw; (try dsimp only at hSw); go_simp; try with_reducible rfl)
        try simp only [List.getElem_toArray, List.getElem_cons_zero, List.getElem_cons_succ, Act.put, List.setIfInBounds_toArray, List.set_cons_zero, List.set_cons_succ]
        refine' wpAnyK_takeL (i := 20) (v := _) rfl (by as_aux_lemma => kernel_rfl) (by as_aux_lemma => kernel_rfl) (by as_aux_lemma => kernel_rfl) (by as_aux_lemma => kernel_rfl) (fun _ _ _ h => h) (Or.inl ⟨by rfl, ?yT15⟩) hHeld ?rT15
        case yT15 => (intro w' hSw; (try dsimp only at hSw); go_simp; try with_reducible rfl)
        try simp only [List.getElem_toArray, List.getElem_cons_zero, List.getElem_cons_succ, Act.put, List.setIfInBounds_toArray, List.set_cons_zero, List.set_cons_succ]
        clear hHeld
        refine wpFl_start (f := 23) (slot := 12) (Bx := FlB (w10.heap.size)) (x0 := u12) (by rfl) ?_
        try simp only [List.getElem_toArray, List.getElem_cons_zero, List.getElem_cons_succ, Act.put, List.setIfInBounds_toArray, List.set_cons_zero, List.set_cons_succ]
        refine wpFl_step (f := 23) (slot := 12) (c := 3) (Z := (.cells #[.int .i64 0, .slice none 0 0] 51)) (F := fun u => Below (w10.heap.size) w10 u) (Bx := FlB (w10.heap.size)) rfl rfl (by decide) (by as_aux_lemma => kernel_rfl) (by as_aux_lemma => kernel_rfl) ?al16 ?bx16 ?hs16 ?f16 ?st16 ?step16
        case al16 => as_aux_lemma => (intro u K h; (try dsimp only at h ⊢); go_simp; exact h)
        case bx16 => as_aux_lemma => (rintro u hd; exact FlB.new hd.size)
        case hs16 => as_aux_lemma =>
          rintro u hd
          obtain ⟨qs_PB101_0, qs_PB101_1⟩ := PB10.1.below hd (Nat.le_refl _)
          obtain ⟨qs_ZB101_0, qs_ZB101_1⟩ := ZB10.1.below hd (Nat.le_refl _)
          obtain ⟨qs_OO101_0, qs_OO101_1⟩ := OO10.1.below hd (Nat.le_refl _)
          obtain ⟨qs_QB101_0, qs_QB101_1⟩ := QB10.1.below hd (Nat.le_refl _)
          obtain ⟨qs_SB101_0, qs_SB101_1⟩ := SB10.1.below hd (Nat.le_refl _)
          have qs_a0 := (((hv10).below hd (Nat.le_refl _))).cellz (some_at0 (show 0 < ls.length by have := HL.out; omega))
          have qs_a1 := (((hv10).below hd (Nat.le_refl _))).cell0 (some_at0 (show 1 < ls.length by have := HL.out; omega))
          have qs_a2 := (((hv10).below hd (Nat.le_refl _))).cell0 (some_at0 (show 2 < ls.length by have := HL.out; omega))
          go_keep
        case f16 => exact hd
        case st16 => as_aux_lemma => (rintro u hd; have hb : Below u.heap.size u (u.alloc (.cells #[.int .i64 0, .slice none 0 0] 51)) := (Below.refl _ _).alloc (Nat.le_refl _) _; exact hd.trans (hb.mono hd.size))
        case step16 =>
        clear hsd
        intro u0 x0 hd K hK
        have hsd := hd.size
        obtain ⟨q0_PB101_0, q0_PB101_1⟩ := PB10.1.below hd (Nat.le_refl _)
        obtain ⟨q0_ZB101_0, q0_ZB101_1⟩ := ZB10.1.below hd (Nat.le_refl _)
        obtain ⟨q0_OO101_0, q0_OO101_1⟩ := OO10.1.below hd (Nat.le_refl _)
        obtain ⟨q0_QB101_0, q0_QB101_1⟩ := QB10.1.below hd (Nat.le_refl _)
        obtain ⟨q0_SB101_0, q0_SB101_1⟩ := SB10.1.below hd (Nat.le_refl _)
        have q0_a0 := (((hv10).below hd (Nat.le_refl _))).cellz (some_at0 (show 0 < ls.length by have := HL.out; omega))
        have q0_a1 := (((hv10).below hd (Nat.le_refl _))).cell0 (some_at0 (show 1 < ls.length by have := HL.out; omega))
        have q0_a2 := (((hv10).below hd (Nat.le_refl _))).cell0 (some_at0 (show 2 < ls.length by have := HL.out; omega))
        (try dsimp only)
        go_simp
        go_at_call 55
        refine (times_n m m N _ _ z W _ ((Z10).below hd (Nat.le_refl _)) ((W10).below hd (Nat.le_refl _)) (by omega) hN hm hm' (by first | assumption | exact LisN.times (by omega) _ _ | exact LisN.add (by omega) _ _ | exact LisN.scale (by omega) (by first | assumption | exact LisN.times (by omega) _ _) _) (by first | assumption | exact LisN.times (by omega) _ _ | exact LisN.add (by omega) _ _ | exact LisN.scale (by omega) (by first | assumption | exact LisN.times (by omega) _ _) _)).mono ?_
        rintro e v0 ⟨_, rfl, hA, hbA⟩
        obtain ⟨oA, cA, rfl⟩ := hA.shapeN (n := N) (timesL_len _ _ _ _)
        go_wp2_with fail
        have hsd0 := hbA.size
        have hA := hA.mono (B' := w10.heap.size) hd.size
        have hd := hd.trans (hbA.mono hd.size)
        obtain ⟨q0n_PB101_0, q0n_PB101_1⟩ := PB10.1.below hd (Nat.le_refl _)
        obtain ⟨q0n_ZB101_0, q0n_ZB101_1⟩ := ZB10.1.below hd (Nat.le_refl _)
        obtain ⟨q0n_OO101_0, q0n_OO101_1⟩ := OO10.1.below hd (Nat.le_refl _)
        obtain ⟨q0n_QB101_0, q0n_QB101_1⟩ := QB10.1.below hd (Nat.le_refl _)
        obtain ⟨q0n_SB101_0, q0n_SB101_1⟩ := SB10.1.below hd (Nat.le_refl _)
        have q0n_a0 := (((hv10).below hd (Nat.le_refl _))).cellz (some_at0 (show 0 < ls.length by have := HL.out; omega))
        have q0n_a1 := (((hv10).below hd (Nat.le_refl _))).cell0 (some_at0 (show 1 < ls.length by have := HL.out; omega))
        have q0n_a2 := (((hv10).below hd (Nat.le_refl _))).cell0 (some_at0 (show 2 < ls.length by have := HL.out; omega))
        have hHeld : (fun w' : World => w'.cell? ⟨w5.heap.size, 0, none⟩ = some (.int .i64 m) ∧ w'.cell? ⟨w5.heap.size, 1, none⟩ = some (.slice op N cp) ∧ w'.cell? ⟨w1.heap.size, 0, none⟩ = some (.int .i64 m) ∧ w'.cell? ⟨w1.heap.size, 1, none⟩ = some (.slice oz N cz) ∧ w'.cell? ⟨w7.heap.size, 0, none⟩ = some (.int .i64 m) ∧ w'.cell? ⟨w7.heap.size, 1, none⟩ = some (.slice ov N cv) ∧ w'.cell? ⟨w3.heap.size, 0, none⟩ = some (.int .i64 m) ∧ w'.cell? ⟨w3.heap.size, 1, none⟩ = some (.slice oq N cq) ∧ w'.cell? ⟨w9.heap.size, 0, none⟩ = some (.int .i64 m) ∧ w'.cell? ⟨w9.heap.size, 1, none⟩ = some (.slice os N cs) ∧ w'.cell? ⟨bl, fl, none⟩ = some (.int .i64 (at0 ls 0)) ∧ w'.cell? ⟨bl, fl + 1, none⟩ = some (.int .i64 (at0 ls 1)) ∧ w'.cell? ⟨bl, fl + 2, none⟩ = some (.int .i64 (at0 ls 2))) v0 := by go_keep
        refine hK.out _ _ (FlB (w10.heap.size)) (by rfl) (fun b hb => hb.below hbA (Nat.le_refl _)) (fun _ => hHeld) ?_
        clear hK K hHeld
        try simp only [List.getElem_toArray, List.getElem_cons_zero, List.getElem_cons_succ, Act.put, List.setIfInBounds_toArray, List.set_cons_zero, List.set_cons_succ]
        refine wpFl_step (f := 23) (slot := 12) (c := 7) (Z := (.cells #[.int .i64 0, .slice none 0 0] 51)) (F := fun u => Below (w10.heap.size) w10 u ∧ OwI u (w10.heap.size) (.slice oA N cA) (timesL m N z W)) (Bx := FlB (w10.heap.size)) rfl rfl (by decide) (by as_aux_lemma => kernel_rfl) (by as_aux_lemma => kernel_rfl) ?al17 ?bx17 ?hs17 ?f17 ?st17 ?step17
        case al17 => as_aux_lemma => (intro u K h; (try dsimp only at h ⊢); go_simp; exact h)
        case bx17 => as_aux_lemma => (rintro u ⟨hd, hA⟩; exact FlB.new hd.size)
        case hs17 => as_aux_lemma =>
          rintro u ⟨hd, hA⟩
          obtain ⟨qs_PB101_0, qs_PB101_1⟩ := PB10.1.below hd (Nat.le_refl _)
          obtain ⟨qs_ZB101_0, qs_ZB101_1⟩ := ZB10.1.below hd (Nat.le_refl _)
          obtain ⟨qs_OO101_0, qs_OO101_1⟩ := OO10.1.below hd (Nat.le_refl _)
          obtain ⟨qs_QB101_0, qs_QB101_1⟩ := QB10.1.below hd (Nat.le_refl _)
          obtain ⟨qs_SB101_0, qs_SB101_1⟩ := SB10.1.below hd (Nat.le_refl _)
          have qs_a0 := (((hv10).below hd (Nat.le_refl _))).cellz (some_at0 (show 0 < ls.length by have := HL.out; omega))
          have qs_a1 := (((hv10).below hd (Nat.le_refl _))).cell0 (some_at0 (show 1 < ls.length by have := HL.out; omega))
          have qs_a2 := (((hv10).below hd (Nat.le_refl _))).cell0 (some_at0 (show 2 < ls.length by have := HL.out; omega))
          go_keep
        case f17 => exact ⟨hd, hA⟩
        case st17 => as_aux_lemma => (rintro u ⟨hd, hA⟩; have hb : Below u.heap.size u (u.alloc (.cells #[.int .i64 0, .slice none 0 0] 51)) := (Below.refl _ _).alloc (Nat.le_refl _) _; exact ⟨hd.trans (hb.mono hd.size), hA.alloc _⟩)
        case step17 =>
        clear hsd
        rintro u1 x1 ⟨hd, hA⟩ K hK
        have hsd := hd.size
        obtain ⟨q1_PB101_0, q1_PB101_1⟩ := PB10.1.below hd (Nat.le_refl _)
        obtain ⟨q1_ZB101_0, q1_ZB101_1⟩ := ZB10.1.below hd (Nat.le_refl _)
        obtain ⟨q1_OO101_0, q1_OO101_1⟩ := OO10.1.below hd (Nat.le_refl _)
        obtain ⟨q1_QB101_0, q1_QB101_1⟩ := QB10.1.below hd (Nat.le_refl _)
        obtain ⟨q1_SB101_0, q1_SB101_1⟩ := SB10.1.below hd (Nat.le_refl _)
        have q1_a0 := (((hv10).below hd (Nat.le_refl _))).cellz (some_at0 (show 0 < ls.length by have := HL.out; omega))
        have q1_a1 := (((hv10).below hd (Nat.le_refl _))).cell0 (some_at0 (show 1 < ls.length by have := HL.out; omega))
        have q1_a2 := (((hv10).below hd (Nat.le_refl _))).cell0 (some_at0 (show 2 < ls.length by have := HL.out; omega))
        (try dsimp only)
        go_simp
        go_at_call 58
        refine (scaled_n m (at0 ls 0) N _ (timesL m N z W) _ hA.rd (by omega) hN hm hm' (by first | assumption | exact LisN.times (by omega) _ _ | exact LisN.add (by omega) _ _ | exact LisN.scale (by omega) (by first | assumption | exact LisN.times (by omega) _ _) _) (by omega) (by omega)).mono ?_
        rintro e v1 ⟨_, rfl, hB, hbB⟩
        obtain ⟨oB, cB, rfl⟩ := hB.shapeN (n := N) (show LisN m N (scaleL m (at0 ls 0) (timesL m N z W)) from (by first | assumption | exact LisN.times (by omega) _ _ | exact LisN.add (by omega) _ _ | exact LisN.scale (by omega) (by first | assumption | exact LisN.times (by omega) _ _) _)).1
        go_wp2_with fail
        have hsd1 := hbB.size
        clear hA
        have hB := hB.mono (B' := w10.heap.size) hd.size
        have hd := hd.trans (hbB.mono hd.size)
        obtain ⟨q1n_PB101_0, q1n_PB101_1⟩ := PB10.1.below hd (Nat.le_refl _)
        obtain ⟨q1n_ZB101_0, q1n_ZB101_1⟩ := ZB10.1.below hd (Nat.le_refl _)
        obtain ⟨q1n_OO101_0, q1n_OO101_1⟩ := OO10.1.below hd (Nat.le_refl _)
        obtain ⟨q1n_QB101_0, q1n_QB101_1⟩ := QB10.1.below hd (Nat.le_refl _)
        obtain ⟨q1n_SB101_0, q1n_SB101_1⟩ := SB10.1.below hd (Nat.le_refl _)
        have q1n_a0 := (((hv10).below hd (Nat.le_refl _))).cellz (some_at0 (show 0 < ls.length by have := HL.out; omega))
        have q1n_a1 := (((hv10).below hd (Nat.le_refl _))).cell0 (some_at0 (show 1 < ls.length by have := HL.out; omega))
        have q1n_a2 := (((hv10).below hd (Nat.le_refl _))).cell0 (some_at0 (show 2 < ls.length by have := HL.out; omega))
        have hHeld : (fun w' : World => w'.cell? ⟨w5.heap.size, 0, none⟩ = some (.int .i64 m) ∧ w'.cell? ⟨w5.heap.size, 1, none⟩ = some (.slice op N cp) ∧ w'.cell? ⟨w1.heap.size, 0, none⟩ = some (.int .i64 m) ∧ w'.cell? ⟨w1.heap.size, 1, none⟩ = some (.slice oz N cz) ∧ w'.cell? ⟨w7.heap.size, 0, none⟩ = some (.int .i64 m) ∧ w'.cell? ⟨w7.heap.size, 1, none⟩ = some (.slice ov N cv) ∧ w'.cell? ⟨w3.heap.size, 0, none⟩ = some (.int .i64 m) ∧ w'.cell? ⟨w3.heap.size, 1, none⟩ = some (.slice oq N cq) ∧ w'.cell? ⟨w9.heap.size, 0, none⟩ = some (.int .i64 m) ∧ w'.cell? ⟨w9.heap.size, 1, none⟩ = some (.slice os N cs) ∧ w'.cell? ⟨bl, fl, none⟩ = some (.int .i64 (at0 ls 0)) ∧ w'.cell? ⟨bl, fl + 1, none⟩ = some (.int .i64 (at0 ls 1)) ∧ w'.cell? ⟨bl, fl + 2, none⟩ = some (.int .i64 (at0 ls 2))) v1 := by go_keep
        refine hK.out _ _ (FlB (w10.heap.size)) (by rfl) (fun b hb => hb.below hbB (Nat.le_refl _)) (fun _ => hHeld) ?_
        clear hK K hHeld
        try simp only [List.getElem_toArray, List.getElem_cons_zero, List.getElem_cons_succ, Act.put, List.setIfInBounds_toArray, List.set_cons_zero, List.set_cons_succ]
        refine wpFl_step (f := 23) (slot := 12) (c := 8) (Z := (.cells #[.int .i64 0, .slice none 0 0] 51)) (F := fun u => Below (w10.heap.size) w10 u ∧ OwI u (w10.heap.size) (.slice oB N cB) (scaleL m (at0 ls 0) (timesL m N z W))) (Bx := FlB (w10.heap.size)) rfl rfl (by decide) (by as_aux_lemma => kernel_rfl) (by as_aux_lemma => kernel_rfl) ?al18 ?bx18 ?hs18 ?f18 ?st18 ?step18
        case al18 => as_aux_lemma => (intro u K h; (try dsimp only at h ⊢); go_simp; exact h)
        case bx18 => as_aux_lemma => (rintro u ⟨hd, hB⟩; exact FlB.new hd.size)
        case hs18 => as_aux_lemma =>
          rintro u ⟨hd, hB⟩
          obtain ⟨qs_PB101_0, qs_PB101_1⟩ := PB10.1.below hd (Nat.le_refl _)
          obtain ⟨qs_ZB101_0, qs_ZB101_1⟩ := ZB10.1.below hd (Nat.le_refl _)
          obtain ⟨qs_OO101_0, qs_OO101_1⟩ := OO10.1.below hd (Nat.le_refl _)
          obtain ⟨qs_QB101_0, qs_QB101_1⟩ := QB10.1.below hd (Nat.le_refl _)
          obtain ⟨qs_SB101_0, qs_SB101_1⟩ := SB10.1.below hd (Nat.le_refl _)
          have qs_a0 := (((hv10).below hd (Nat.le_refl _))).cellz (some_at0 (show 0 < ls.length by have := HL.out; omega))
          have qs_a1 := (((hv10).below hd (Nat.le_refl _))).cell0 (some_at0 (show 1 < ls.length by have := HL.out; omega))
          have qs_a2 := (((hv10).below hd (Nat.le_refl _))).cell0 (some_at0 (show 2 < ls.length by have := HL.out; omega))
          go_keep
        case f18 => exact ⟨hd, hB⟩
        case st18 => as_aux_lemma => (rintro u ⟨hd, hB⟩; have hb : Below u.heap.size u (u.alloc (.cells #[.int .i64 0, .slice none 0 0] 51)) := (Below.refl _ _).alloc (Nat.le_refl _) _; exact ⟨hd.trans (hb.mono hd.size), hB.alloc _⟩)
        case step18 =>
        clear hsd
        rintro u2 x2 ⟨hd, hB⟩ K hK
        have hsd := hd.size
        obtain ⟨q2_PB101_0, q2_PB101_1⟩ := PB10.1.below hd (Nat.le_refl _)
        obtain ⟨q2_ZB101_0, q2_ZB101_1⟩ := ZB10.1.below hd (Nat.le_refl _)
        obtain ⟨q2_OO101_0, q2_OO101_1⟩ := OO10.1.below hd (Nat.le_refl _)
        obtain ⟨q2_QB101_0, q2_QB101_1⟩ := QB10.1.below hd (Nat.le_refl _)
        obtain ⟨q2_SB101_0, q2_SB101_1⟩ := SB10.1.below hd (Nat.le_refl _)
        have q2_a0 := (((hv10).below hd (Nat.le_refl _))).cellz (some_at0 (show 0 < ls.length by have := HL.out; omega))
        have q2_a1 := (((hv10).below hd (Nat.le_refl _))).cell0 (some_at0 (show 1 < ls.length by have := HL.out; omega))
        have q2_a2 := (((hv10).below hd (Nat.le_refl _))).cell0 (some_at0 (show 2 < ls.length by have := HL.out; omega))
        (try dsimp only)
        go_simp
        go_at_call 57
        refine (plus_n m m N _ _ p (scaleL m (at0 ls 0) (timesL m N z W)) _ ((P10).below hd (Nat.le_refl _)) hB.rd (by omega) hN hm hm' (by first | assumption | exact LisN.times (by omega) _ _ | exact LisN.add (by omega) _ _ | exact LisN.scale (by omega) (by first | assumption | exact LisN.times (by omega) _ _) _) (by first | assumption | exact LisN.times (by omega) _ _ | exact LisN.add (by omega) _ _ | exact LisN.scale (by omega) (by first | assumption | exact LisN.times (by omega) _ _) _)).mono ?_
        rintro e v2 ⟨_, rfl, hC, hbC⟩
        obtain ⟨oC, cC, rfl⟩ := hC.shapeN (n := N) (addL_len _ _ _ _)
        go_wp2_with fail
        have hsd2 := hbC.size
        clear hB
        have hC := hC.mono (B' := w10.heap.size) hd.size
        have hd := hd.trans (hbC.mono hd.size)
        obtain ⟨q2n_PB101_0, q2n_PB101_1⟩ := PB10.1.below hd (Nat.le_refl _)
        obtain ⟨q2n_ZB101_0, q2n_ZB101_1⟩ := ZB10.1.below hd (Nat.le_refl _)
        obtain ⟨q2n_OO101_0, q2n_OO101_1⟩ := OO10.1.below hd (Nat.le_refl _)
        obtain ⟨q2n_QB101_0, q2n_QB101_1⟩ := QB10.1.below hd (Nat.le_refl _)
        obtain ⟨q2n_SB101_0, q2n_SB101_1⟩ := SB10.1.below hd (Nat.le_refl _)
        have q2n_a0 := (((hv10).below hd (Nat.le_refl _))).cellz (some_at0 (show 0 < ls.length by have := HL.out; omega))
        have q2n_a1 := (((hv10).below hd (Nat.le_refl _))).cell0 (some_at0 (show 1 < ls.length by have := HL.out; omega))
        have q2n_a2 := (((hv10).below hd (Nat.le_refl _))).cell0 (some_at0 (show 2 < ls.length by have := HL.out; omega))
        have hHeld : (fun w' : World => w'.cell? ⟨w5.heap.size, 0, none⟩ = some (.int .i64 m) ∧ w'.cell? ⟨w5.heap.size, 1, none⟩ = some (.slice op N cp) ∧ w'.cell? ⟨w1.heap.size, 0, none⟩ = some (.int .i64 m) ∧ w'.cell? ⟨w1.heap.size, 1, none⟩ = some (.slice oz N cz) ∧ w'.cell? ⟨w7.heap.size, 0, none⟩ = some (.int .i64 m) ∧ w'.cell? ⟨w7.heap.size, 1, none⟩ = some (.slice ov N cv) ∧ w'.cell? ⟨w3.heap.size, 0, none⟩ = some (.int .i64 m) ∧ w'.cell? ⟨w3.heap.size, 1, none⟩ = some (.slice oq N cq) ∧ w'.cell? ⟨w9.heap.size, 0, none⟩ = some (.int .i64 m) ∧ w'.cell? ⟨w9.heap.size, 1, none⟩ = some (.slice os N cs) ∧ w'.cell? ⟨bl, fl, none⟩ = some (.int .i64 (at0 ls 0)) ∧ w'.cell? ⟨bl, fl + 1, none⟩ = some (.int .i64 (at0 ls 1)) ∧ w'.cell? ⟨bl, fl + 2, none⟩ = some (.int .i64 (at0 ls 2))) v2 := by go_keep
        refine hK.out _ _ (FlB (w10.heap.size)) (by rfl) (fun b hb => hb.below hbC (Nat.le_refl _)) (fun _ => hHeld) ?_
        clear hK K hHeld
        try simp only [List.getElem_toArray, List.getElem_cons_zero, List.getElem_cons_succ, Act.put, List.setIfInBounds_toArray, List.set_cons_zero, List.set_cons_succ]
        refine wpFl_step (f := 23) (slot := 12) (c := 11) (Z := (.cells #[.int .i64 0, .slice none 0 0] 51)) (F := fun u => Below (w10.heap.size) w10 u ∧ OwI u (w10.heap.size) (.slice oC N cC) (addL m N p (scaleL m (at0 ls 0) (timesL m N z W)))) (Bx := FlB (w10.heap.size)) rfl rfl (by decide) (by as_aux_lemma => kernel_rfl) (by as_aux_lemma => kernel_rfl) ?al19 ?bx19 ?hs19 ?f19 ?st19 ?step19
        case al19 => as_aux_lemma => (intro u K h; (try dsimp only at h ⊢); go_simp; exact h)
        case bx19 => as_aux_lemma => (rintro u ⟨hd, hC⟩; exact FlB.new hd.size)
        case hs19 => as_aux_lemma =>
          rintro u ⟨hd, hC⟩
          obtain ⟨qs_PB101_0, qs_PB101_1⟩ := PB10.1.below hd (Nat.le_refl _)
          obtain ⟨qs_ZB101_0, qs_ZB101_1⟩ := ZB10.1.below hd (Nat.le_refl _)
          obtain ⟨qs_OO101_0, qs_OO101_1⟩ := OO10.1.below hd (Nat.le_refl _)
          obtain ⟨qs_QB101_0, qs_QB101_1⟩ := QB10.1.below hd (Nat.le_refl _)
          obtain ⟨qs_SB101_0, qs_SB101_1⟩ := SB10.1.below hd (Nat.le_refl _)
          have qs_a0 := (((hv10).below hd (Nat.le_refl _))).cellz (some_at0 (show 0 < ls.length by have := HL.out; omega))
          have qs_a1 := (((hv10).below hd (Nat.le_refl _))).cell0 (some_at0 (show 1 < ls.length by have := HL.out; omega))
          have qs_a2 := (((hv10).below hd (Nat.le_refl _))).cell0 (some_at0 (show 2 < ls.length by have := HL.out; omega))
          go_keep
        case f19 => exact ⟨hd, hC⟩
        case st19 => as_aux_lemma => (rintro u ⟨hd, hC⟩; have hb : Below u.heap.size u (u.alloc (.cells #[.int .i64 0, .slice none 0 0] 51)) := (Below.refl _ _).alloc (Nat.le_refl _) _; exact ⟨hd.trans (hb.mono hd.size), hC.alloc _⟩)
        case step19 =>
        clear hsd
        rintro u3 x3 ⟨hd, hC⟩ K hK
        have hsd := hd.size
        obtain ⟨q3_PB101_0, q3_PB101_1⟩ := PB10.1.below hd (Nat.le_refl _)
        obtain ⟨q3_ZB101_0, q3_ZB101_1⟩ := ZB10.1.below hd (Nat.le_refl _)
        obtain ⟨q3_OO101_0, q3_OO101_1⟩ := OO10.1.below hd (Nat.le_refl _)
        obtain ⟨q3_QB101_0, q3_QB101_1⟩ := QB10.1.below hd (Nat.le_refl _)
        obtain ⟨q3_SB101_0, q3_SB101_1⟩ := SB10.1.below hd (Nat.le_refl _)
        have q3_a0 := (((hv10).below hd (Nat.le_refl _))).cellz (some_at0 (show 0 < ls.length by have := HL.out; omega))
        have q3_a1 := (((hv10).below hd (Nat.le_refl _))).cell0 (some_at0 (show 1 < ls.length by have := HL.out; omega))
        have q3_a2 := (((hv10).below hd (Nat.le_refl _))).cell0 (some_at0 (show 2 < ls.length by have := HL.out; omega))
        (try dsimp only)
        go_simp
        go_at_call 55
        refine (times_n m m N _ _ q W _ ((Q10).below hd (Nat.le_refl _)) ((W10).below hd (Nat.le_refl _)) (by omega) hN hm hm' (by first | assumption | exact LisN.times (by omega) _ _ | exact LisN.add (by omega) _ _ | exact LisN.scale (by omega) (by first | assumption | exact LisN.times (by omega) _ _) _) (by first | assumption | exact LisN.times (by omega) _ _ | exact LisN.add (by omega) _ _ | exact LisN.scale (by omega) (by first | assumption | exact LisN.times (by omega) _ _) _)).mono ?_
        rintro e v3 ⟨_, rfl, hD, hbD⟩
        obtain ⟨oD, cD, rfl⟩ := hD.shapeN (n := N) (timesL_len _ _ _ _)
        go_wp2_with fail
        have hsd3 := hbD.size
        have hC := hC.below hbD
        have hD := hD.mono (B' := w10.heap.size) hd.size
        have hd := hd.trans (hbD.mono hd.size)
        obtain ⟨q3n_PB101_0, q3n_PB101_1⟩ := PB10.1.below hd (Nat.le_refl _)
        obtain ⟨q3n_ZB101_0, q3n_ZB101_1⟩ := ZB10.1.below hd (Nat.le_refl _)
        obtain ⟨q3n_OO101_0, q3n_OO101_1⟩ := OO10.1.below hd (Nat.le_refl _)
        obtain ⟨q3n_QB101_0, q3n_QB101_1⟩ := QB10.1.below hd (Nat.le_refl _)
        obtain ⟨q3n_SB101_0, q3n_SB101_1⟩ := SB10.1.below hd (Nat.le_refl _)
        have q3n_a0 := (((hv10).below hd (Nat.le_refl _))).cellz (some_at0 (show 0 < ls.length by have := HL.out; omega))
        have q3n_a1 := (((hv10).below hd (Nat.le_refl _))).cell0 (some_at0 (show 1 < ls.length by have := HL.out; omega))
        have q3n_a2 := (((hv10).below hd (Nat.le_refl _))).cell0 (some_at0 (show 2 < ls.length by have := HL.out; omega))
        have hHeld : (fun w' : World => w'.cell? ⟨w5.heap.size, 0, none⟩ = some (.int .i64 m) ∧ w'.cell? ⟨w5.heap.size, 1, none⟩ = some (.slice op N cp) ∧ w'.cell? ⟨w1.heap.size, 0, none⟩ = some (.int .i64 m) ∧ w'.cell? ⟨w1.heap.size, 1, none⟩ = some (.slice oz N cz) ∧ w'.cell? ⟨w7.heap.size, 0, none⟩ = some (.int .i64 m) ∧ w'.cell? ⟨w7.heap.size, 1, none⟩ = some (.slice ov N cv) ∧ w'.cell? ⟨w3.heap.size, 0, none⟩ = some (.int .i64 m) ∧ w'.cell? ⟨w3.heap.size, 1, none⟩ = some (.slice oq N cq) ∧ w'.cell? ⟨w9.heap.size, 0, none⟩ = some (.int .i64 m) ∧ w'.cell? ⟨w9.heap.size, 1, none⟩ = some (.slice os N cs) ∧ w'.cell? ⟨bl, fl, none⟩ = some (.int .i64 (at0 ls 0)) ∧ w'.cell? ⟨bl, fl + 1, none⟩ = some (.int .i64 (at0 ls 1)) ∧ w'.cell? ⟨bl, fl + 2, none⟩ = some (.int .i64 (at0 ls 2))) v3 := by go_keep
        refine hK.out _ _ (FlB (w10.heap.size)) (by rfl) (fun b hb => hb.below hbD (Nat.le_refl _)) (fun _ => hHeld) ?_
        clear hK K hHeld
        try simp only [List.getElem_toArray, List.getElem_cons_zero, List.getElem_cons_succ, Act.put, List.setIfInBounds_toArray, List.set_cons_zero, List.set_cons_succ]
        refine wpFl_step (f := 23) (slot := 12) (c := 15) (Z := (.cells #[.int .i64 0, .slice none 0 0] 51)) (F := fun u => Below (w10.heap.size) w10 u ∧ OwI u (w10.heap.size) (.slice oC N cC) (addL m N p (scaleL m (at0 ls 0) (timesL m N z W))) ∧ OwI u (w10.heap.size) (.slice oD N cD) (timesL m N q W)) (Bx := FlB (w10.heap.size)) rfl rfl (by decide) (by as_aux_lemma => kernel_rfl) (by as_aux_lemma => kernel_rfl) ?al20 ?bx20 ?hs20 ?f20 ?st20 ?step20
        case al20 => as_aux_lemma => (intro u K h; (try dsimp only at h ⊢); go_simp; exact h)
        case bx20 => as_aux_lemma => (rintro u ⟨hd, hC, hD⟩; exact FlB.new hd.size)
        case hs20 => as_aux_lemma =>
          rintro u ⟨hd, hC, hD⟩
          obtain ⟨qs_PB101_0, qs_PB101_1⟩ := PB10.1.below hd (Nat.le_refl _)
          obtain ⟨qs_ZB101_0, qs_ZB101_1⟩ := ZB10.1.below hd (Nat.le_refl _)
          obtain ⟨qs_OO101_0, qs_OO101_1⟩ := OO10.1.below hd (Nat.le_refl _)
          obtain ⟨qs_QB101_0, qs_QB101_1⟩ := QB10.1.below hd (Nat.le_refl _)
          obtain ⟨qs_SB101_0, qs_SB101_1⟩ := SB10.1.below hd (Nat.le_refl _)
          have qs_a0 := (((hv10).below hd (Nat.le_refl _))).cellz (some_at0 (show 0 < ls.length by have := HL.out; omega))
          have qs_a1 := (((hv10).below hd (Nat.le_refl _))).cell0 (some_at0 (show 1 < ls.length by have := HL.out; omega))
          have qs_a2 := (((hv10).below hd (Nat.le_refl _))).cell0 (some_at0 (show 2 < ls.length by have := HL.out; omega))
          go_keep
        case f20 => exact ⟨hd, hC, hD⟩
        case st20 => as_aux_lemma => (rintro u ⟨hd, hC, hD⟩; have hb : Below u.heap.size u (u.alloc (.cells #[.int .i64 0, .slice none 0 0] 51)) := (Below.refl _ _).alloc (Nat.le_refl _) _; exact ⟨hd.trans (hb.mono hd.size), hC.alloc _, hD.alloc _⟩)
        case step20 =>
        clear hsd
        rintro u4 x4 ⟨hd, hC, hD⟩ K hK
        have hsd := hd.size
        obtain ⟨q4_PB101_0, q4_PB101_1⟩ := PB10.1.below hd (Nat.le_refl _)
        obtain ⟨q4_ZB101_0, q4_ZB101_1⟩ := ZB10.1.below hd (Nat.le_refl _)
        obtain ⟨q4_OO101_0, q4_OO101_1⟩ := OO10.1.below hd (Nat.le_refl _)
        obtain ⟨q4_QB101_0, q4_QB101_1⟩ := QB10.1.below hd (Nat.le_refl _)
        obtain ⟨q4_SB101_0, q4_SB101_1⟩ := SB10.1.below hd (Nat.le_refl _)
        have q4_a0 := (((hv10).below hd (Nat.le_refl _))).cellz (some_at0 (show 0 < ls.length by have := HL.out; omega))
        have q4_a1 := (((hv10).below hd (Nat.le_refl _))).cell0 (some_at0 (show 1 < ls.length by have := HL.out; omega))
        have q4_a2 := (((hv10).below hd (Nat.le_refl _))).cell0 (some_at0 (show 2 < ls.length by have := HL.out; omega))
        (try dsimp only)
        go_simp
        go_at_call 58
        refine (scaled_n m (at0 ls 1) N _ (timesL m N q W) _ hD.rd (by omega) hN hm hm' (by first | assumption | exact LisN.times (by omega) _ _ | exact LisN.add (by omega) _ _ | exact LisN.scale (by omega) (by first | assumption | exact LisN.times (by omega) _ _) _) (by omega) (by omega)).mono ?_
        rintro e v4 ⟨_, rfl, hE, hbE⟩
        obtain ⟨oE, cE, rfl⟩ := hE.shapeN (n := N) (show LisN m N (scaleL m (at0 ls 1) (timesL m N q W)) from (by first | assumption | exact LisN.times (by omega) _ _ | exact LisN.add (by omega) _ _ | exact LisN.scale (by omega) (by first | assumption | exact LisN.times (by omega) _ _) _)).1
        go_wp2_with fail
        have hsd4 := hbE.size
        clear hD
        have hC := hC.below hbE
        have hE := hE.mono (B' := w10.heap.size) hd.size
        have hd := hd.trans (hbE.mono hd.size)
        obtain ⟨q4n_PB101_0, q4n_PB101_1⟩ := PB10.1.below hd (Nat.le_refl _)
        obtain ⟨q4n_ZB101_0, q4n_ZB101_1⟩ := ZB10.1.below hd (Nat.le_refl _)
        obtain ⟨q4n_OO101_0, q4n_OO101_1⟩ := OO10.1.below hd (Nat.le_refl _)
        obtain ⟨q4n_QB101_0, q4n_QB101_1⟩ := QB10.1.below hd (Nat.le_refl _)
        obtain ⟨q4n_SB101_0, q4n_SB101_1⟩ := SB10.1.below hd (Nat.le_refl _)
        have q4n_a0 := (((hv10).below hd (Nat.le_refl _))).cellz (some_at0 (show 0 < ls.length by have := HL.out; omega))
        have q4n_a1 := (((hv10).below hd (Nat.le_refl _))).cell0 (some_at0 (show 1 < ls.length by have := HL.out; omega))
        have q4n_a2 := (((hv10).below hd (Nat.le_refl _))).cell0 (some_at0 (show 2 < ls.length by have := HL.out; omega))
        have hHeld : (fun w' : World => w'.cell? ⟨w5.heap.size, 0, none⟩ = some (.int .i64 m) ∧ w'.cell? ⟨w5.heap.size, 1, none⟩ = some (.slice op N cp) ∧ w'.cell? ⟨w1.heap.size, 0, none⟩ = some (.int .i64 m) ∧ w'.cell? ⟨w1.heap.size, 1, none⟩ = some (.slice oz N cz) ∧ w'.cell? ⟨w7.heap.size, 0, none⟩ = some (.int .i64 m) ∧ w'.cell? ⟨w7.heap.size, 1, none⟩ = some (.slice ov N cv) ∧ w'.cell? ⟨w3.heap.size, 0, none⟩ = some (.int .i64 m) ∧ w'.cell? ⟨w3.heap.size, 1, none⟩ = some (.slice oq N cq) ∧ w'.cell? ⟨w9.heap.size, 0, none⟩ = some (.int .i64 m) ∧ w'.cell? ⟨w9.heap.size, 1, none⟩ = some (.slice os N cs) ∧ w'.cell? ⟨bl, fl, none⟩ = some (.int .i64 (at0 ls 0)) ∧ w'.cell? ⟨bl, fl + 1, none⟩ = some (.int .i64 (at0 ls 1)) ∧ w'.cell? ⟨bl, fl + 2, none⟩ = some (.int .i64 (at0 ls 2))) v4 := by go_keep
        refine hK.out _ _ (FlB (w10.heap.size)) (by rfl) (fun b hb => hb.below hbE (Nat.le_refl _)) (fun _ => hHeld) ?_
        clear hK K hHeld
        try simp only [List.getElem_toArray, List.getElem_cons_zero, List.getElem_cons_succ, Act.put, List.setIfInBounds_toArray, List.set_cons_zero, List.set_cons_succ]
        refine wpFl_step (f := 23) (slot := 12) (c := 16) (Z := (.cells #[.int .i64 0, .slice none 0 0] 51)) (F := fun u => Below (w10.heap.size) w10 u ∧ OwI u (w10.heap.size) (.slice oC N cC) (addL m N p (scaleL m (at0 ls 0) (timesL m N z W))) ∧ OwI u (w10.heap.size) (.slice oE N cE) (scaleL m (at0 ls 1) (timesL m N q W))) (Bx := FlB (w10.heap.size)) rfl rfl (by decide) (by as_aux_lemma => kernel_rfl) (by as_aux_lemma => kernel_rfl) ?al21 ?bx21 ?hs21 ?f21 ?st21 ?step21
        case al21 => as_aux_lemma => (intro u K h; (try dsimp only at h ⊢); go_simp; exact h)
        case bx21 => as_aux_lemma => (rintro u ⟨hd, hC, hE⟩; exact FlB.new hd.size)
        case hs21 => as_aux_lemma =>
          rintro u ⟨hd, hC, hE⟩
          obtain ⟨qs_PB101_0, qs_PB101_1⟩ := PB10.1.below hd (Nat.le_refl _)
          obtain ⟨qs_ZB101_0, qs_ZB101_1⟩ := ZB10.1.below hd (Nat.le_refl _)
          obtain ⟨qs_OO101_0, qs_OO101_1⟩ := OO10.1.below hd (Nat.le_refl _)
          obtain ⟨qs_QB101_0, qs_QB101_1⟩ := QB10.1.below hd (Nat.le_refl _)
          obtain ⟨qs_SB101_0, qs_SB101_1⟩ := SB10.1.below hd (Nat.le_refl _)
          have qs_a0 := (((hv10).below hd (Nat.le_refl _))).cellz (some_at0 (show 0 < ls.length by have := HL.out; omega))
          have qs_a1 := (((hv10).below hd (Nat.le_refl _))).cell0 (some_at0 (show 1 < ls.length by have := HL.out; omega))
          have qs_a2 := (((hv10).below hd (Nat.le_refl _))).cell0 (some_at0 (show 2 < ls.length by have := HL.out; omega))
          go_keep
        case f21 => exact ⟨hd, hC, hE⟩
        case st21 => as_aux_lemma => (rintro u ⟨hd, hC, hE⟩; have hb : Below u.heap.size u (u.alloc (.cells #[.int .i64 0, .slice none 0 0] 51)) := (Below.refl _ _).alloc (Nat.le_refl _) _; exact ⟨hd.trans (hb.mono hd.size), hC.alloc _, hE.alloc _⟩)
        case step21 =>
        clear hsd
        rintro u5 x5 ⟨hd, hC, hE⟩ K hK
        have hsd := hd.size
        obtain ⟨q5_PB101_0, q5_PB101_1⟩ := PB10.1.below hd (Nat.le_refl _)
        obtain ⟨q5_ZB101_0, q5_ZB101_1⟩ := ZB10.1.below hd (Nat.le_refl _)
        obtain ⟨q5_OO101_0, q5_OO101_1⟩ := OO10.1.below hd (Nat.le_refl _)
        obtain ⟨q5_QB101_0, q5_QB101_1⟩ := QB10.1.below hd (Nat.le_refl _)
        obtain ⟨q5_SB101_0, q5_SB101_1⟩ := SB10.1.below hd (Nat.le_refl _)
        have q5_a0 := (((hv10).below hd (Nat.le_refl _))).cellz (some_at0 (show 0 < ls.length by have := HL.out; omega))
        have q5_a1 := (((hv10).below hd (Nat.le_refl _))).cell0 (some_at0 (show 1 < ls.length by have := HL.out; omega))
        have q5_a2 := (((hv10).below hd (Nat.le_refl _))).cell0 (some_at0 (show 2 < ls.length by have := HL.out; omega))
        (try dsimp only)
        go_simp
        go_at_call 57
        refine (plus_n m m N _ _ (addL m N p (scaleL m (at0 ls 0) (timesL m N z W))) (scaleL m (at0 ls 1) (timesL m N q W)) _ hC.rd hE.rd (by omega) hN hm hm' (by first | assumption | exact LisN.times (by omega) _ _ | exact LisN.add (by omega) _ _ | exact LisN.scale (by omega) (by first | assumption | exact LisN.times (by omega) _ _) _) (by first | assumption | exact LisN.times (by omega) _ _ | exact LisN.add (by omega) _ _ | exact LisN.scale (by omega) (by first | assumption | exact LisN.times (by omega) _ _) _)).mono ?_
        rintro e v5 ⟨_, rfl, hG, hbG⟩
        obtain ⟨oG, cG, rfl⟩ := hG.shapeN (n := N) (addL_len _ _ _ _)
        go_wp2_with fail
        have hsd5 := hbG.size
        clear hC
        clear hE
        have hG := hG.mono (B' := w10.heap.size) hd.size
        have hd := hd.trans (hbG.mono hd.size)
        obtain ⟨q5n_PB101_0, q5n_PB101_1⟩ := PB10.1.below hd (Nat.le_refl _)
        obtain ⟨q5n_ZB101_0, q5n_ZB101_1⟩ := ZB10.1.below hd (Nat.le_refl _)
        obtain ⟨q5n_OO101_0, q5n_OO101_1⟩ := OO10.1.below hd (Nat.le_refl _)
        obtain ⟨q5n_QB101_0, q5n_QB101_1⟩ := QB10.1.below hd (Nat.le_refl _)
        obtain ⟨q5n_SB101_0, q5n_SB101_1⟩ := SB10.1.below hd (Nat.le_refl _)
        have q5n_a0 := (((hv10).below hd (Nat.le_refl _))).cellz (some_at0 (show 0 < ls.length by have := HL.out; omega))
        have q5n_a1 := (((hv10).below hd (Nat.le_refl _))).cell0 (some_at0 (show 1 < ls.length by have := HL.out; omega))
        have q5n_a2 := (((hv10).below hd (Nat.le_refl _))).cell0 (some_at0 (show 2 < ls.length by have := HL.out; omega))
        have hHeld : (fun w' : World => w'.cell? ⟨w5.heap.size, 0, none⟩ = some (.int .i64 m) ∧ w'.cell? ⟨w5.heap.size, 1, none⟩ = some (.slice op N cp) ∧ w'.cell? ⟨w1.heap.size, 0, none⟩ = some (.int .i64 m) ∧ w'.cell? ⟨w1.heap.size, 1, none⟩ = some (.slice oz N cz) ∧ w'.cell? ⟨w7.heap.size, 0, none⟩ = some (.int .i64 m) ∧ w'.cell? ⟨w7.heap.size, 1, none⟩ = some (.slice ov N cv) ∧ w'.cell? ⟨w3.heap.size, 0, none⟩ = some (.int .i64 m) ∧ w'.cell? ⟨w3.heap.size, 1, none⟩ = some (.slice oq N cq) ∧ w'.cell? ⟨w9.heap.size, 0, none⟩ = some (.int .i64 m) ∧ w'.cell? ⟨w9.heap.size, 1, none⟩ = some (.slice os N cs) ∧ w'.cell? ⟨bl, fl, none⟩ = some (.int .i64 (at0 ls 0)) ∧ w'.cell? ⟨bl, fl + 1, none⟩ = some (.int .i64 (at0 ls 1)) ∧ w'.cell? ⟨bl, fl + 2, none⟩ = some (.int .i64 (at0 ls 2))) v5 := by go_keep
        refine hK.out _ _ (FlB (w10.heap.size)) (by rfl) (fun b hb => hb.below hbG (Nat.le_refl _)) (fun _ => hHeld) ?_
        clear hK K hHeld
        try simp only [List.getElem_toArray, List.getElem_cons_zero, List.getElem_cons_succ, Act.put, List.setIfInBounds_toArray, List.set_cons_zero, List.set_cons_succ]
        refine wpFl_step (f := 23) (slot := 12) (c := 21) (Z := (.cells #[.int .i64 0, .slice none 0 0] 51)) (F := fun u => Below (w10.heap.size) w10 u ∧ OwI u (w10.heap.size) (.slice oG N cG) (addL m N (addL m N p (scaleL m (at0 ls 0) (timesL m N z W))) (scaleL m (at0 ls 1) (timesL m N q W)))) (Bx := FlB (w10.heap.size)) rfl rfl (by decide) (by as_aux_lemma => kernel_rfl) (by as_aux_lemma => kernel_rfl) ?al22 ?bx22 ?hs22 ?f22 ?st22 ?step22
        case al22 => as_aux_lemma => (intro u K h; (try dsimp only at h ⊢); go_simp; exact h)
        case bx22 => as_aux_lemma => (rintro u ⟨hd, hG⟩; exact FlB.new hd.size)
        case hs22 => as_aux_lemma =>
          rintro u ⟨hd, hG⟩
          obtain ⟨qs_PB101_0, qs_PB101_1⟩ := PB10.1.below hd (Nat.le_refl _)
          obtain ⟨qs_ZB101_0, qs_ZB101_1⟩ := ZB10.1.below hd (Nat.le_refl _)
          obtain ⟨qs_OO101_0, qs_OO101_1⟩ := OO10.1.below hd (Nat.le_refl _)
          obtain ⟨qs_QB101_0, qs_QB101_1⟩ := QB10.1.below hd (Nat.le_refl _)
          obtain ⟨qs_SB101_0, qs_SB101_1⟩ := SB10.1.below hd (Nat.le_refl _)
          have qs_a0 := (((hv10).below hd (Nat.le_refl _))).cellz (some_at0 (show 0 < ls.length by have := HL.out; omega))
          have qs_a1 := (((hv10).below hd (Nat.le_refl _))).cell0 (some_at0 (show 1 < ls.length by have := HL.out; omega))
          have qs_a2 := (((hv10).below hd (Nat.le_refl _))).cell0 (some_at0 (show 2 < ls.length by have := HL.out; omega))
          go_keep
        case f22 => exact ⟨hd, hG⟩
        case st22 => as_aux_lemma => (rintro u ⟨hd, hG⟩; have hb : Below u.heap.size u (u.alloc (.cells #[.int .i64 0, .slice none 0 0] 51)) := (Below.refl _ _).alloc (Nat.le_refl _) _; exact ⟨hd.trans (hb.mono hd.size), hG.alloc _⟩)
        case step22 =>
        clear hsd
        rintro u6 x6 ⟨hd, hG⟩ K hK
        have hsd := hd.size
        obtain ⟨q6_PB101_0, q6_PB101_1⟩ := PB10.1.below hd (Nat.le_refl _)
        obtain ⟨q6_ZB101_0, q6_ZB101_1⟩ := ZB10.1.below hd (Nat.le_refl _)
        obtain ⟨q6_OO101_0, q6_OO101_1⟩ := OO10.1.below hd (Nat.le_refl _)
        obtain ⟨q6_QB101_0, q6_QB101_1⟩ := QB10.1.below hd (Nat.le_refl _)
        obtain ⟨q6_SB101_0, q6_SB101_1⟩ := SB10.1.below hd (Nat.le_refl _)
        have q6_a0 := (((hv10).below hd (Nat.le_refl _))).cellz (some_at0 (show 0 < ls.length by have := HL.out; omega))
        have q6_a1 := (((hv10).below hd (Nat.le_refl _))).cell0 (some_at0 (show 1 < ls.length by have := HL.out; omega))
        have q6_a2 := (((hv10).below hd (Nat.le_refl _))).cell0 (some_at0 (show 2 < ls.length by have := HL.out; omega))
        (try dsimp only)
        go_simp
        go_at_call 58
        refine (scaled_n m (at0 ls 2) N _ sq _ ((S10).below hd (Nat.le_refl _)) (by omega) hN hm hm' (by first | assumption | exact LisN.times (by omega) _ _ | exact LisN.add (by omega) _ _ | exact LisN.scale (by omega) (by first | assumption | exact LisN.times (by omega) _ _) _) (by omega) (by omega)).mono ?_
        rintro e v6 ⟨_, rfl, hH, hbH⟩
        obtain ⟨oH, cH, rfl⟩ := hH.shapeN (n := N) (show LisN m N (scaleL m (at0 ls 2) sq) from (by first | assumption | exact LisN.times (by omega) _ _ | exact LisN.add (by omega) _ _ | exact LisN.scale (by omega) (by first | assumption | exact LisN.times (by omega) _ _) _)).1
        go_wp2_with fail
        have hsd6 := hbH.size
        have hG := hG.below hbH
        have hH := hH.mono (B' := w10.heap.size) hd.size
        have hd := hd.trans (hbH.mono hd.size)
        obtain ⟨q6n_PB101_0, q6n_PB101_1⟩ := PB10.1.below hd (Nat.le_refl _)
        obtain ⟨q6n_ZB101_0, q6n_ZB101_1⟩ := ZB10.1.below hd (Nat.le_refl _)
        obtain ⟨q6n_OO101_0, q6n_OO101_1⟩ := OO10.1.below hd (Nat.le_refl _)
        obtain ⟨q6n_QB101_0, q6n_QB101_1⟩ := QB10.1.below hd (Nat.le_refl _)
        obtain ⟨q6n_SB101_0, q6n_SB101_1⟩ := SB10.1.below hd (Nat.le_refl _)
        have q6n_a0 := (((hv10).below hd (Nat.le_refl _))).cellz (some_at0 (show 0 < ls.length by have := HL.out; omega))
        have q6n_a1 := (((hv10).below hd (Nat.le_refl _))).cell0 (some_at0 (show 1 < ls.length by have := HL.out; omega))
        have q6n_a2 := (((hv10).below hd (Nat.le_refl _))).cell0 (some_at0 (show 2 < ls.length by have := HL.out; omega))
        have hHeld : (fun w' : World => w'.cell? ⟨w5.heap.size, 0, none⟩ = some (.int .i64 m) ∧ w'.cell? ⟨w5.heap.size, 1, none⟩ = some (.slice op N cp) ∧ w'.cell? ⟨w1.heap.size, 0, none⟩ = some (.int .i64 m) ∧ w'.cell? ⟨w1.heap.size, 1, none⟩ = some (.slice oz N cz) ∧ w'.cell? ⟨w7.heap.size, 0, none⟩ = some (.int .i64 m) ∧ w'.cell? ⟨w7.heap.size, 1, none⟩ = some (.slice ov N cv) ∧ w'.cell? ⟨w3.heap.size, 0, none⟩ = some (.int .i64 m) ∧ w'.cell? ⟨w3.heap.size, 1, none⟩ = some (.slice oq N cq) ∧ w'.cell? ⟨w9.heap.size, 0, none⟩ = some (.int .i64 m) ∧ w'.cell? ⟨w9.heap.size, 1, none⟩ = some (.slice os N cs) ∧ w'.cell? ⟨bl, fl, none⟩ = some (.int .i64 (at0 ls 0)) ∧ w'.cell? ⟨bl, fl + 1, none⟩ = some (.int .i64 (at0 ls 1)) ∧ w'.cell? ⟨bl, fl + 2, none⟩ = some (.int .i64 (at0 ls 2))) v6 := by go_keep
        refine hK.out _ _ (FlB (w10.heap.size)) (by rfl) (fun b hb => hb.below hbH (Nat.le_refl _)) (fun _ => hHeld) ?_
        clear hK K hHeld
        try simp only [List.getElem_toArray, List.getElem_cons_zero, List.getElem_cons_succ, Act.put, List.setIfInBounds_toArray, List.set_cons_zero, List.set_cons_succ]
        refine wpFl_step (f := 23) (slot := 12) (c := 22) (Z := (.cells #[.int .i64 0, .slice none 0 0] 51)) (F := fun u => Below (w10.heap.size) w10 u ∧ OwI u (w10.heap.size) (.slice oG N cG) (addL m N (addL m N p (scaleL m (at0 ls 0) (timesL m N z W))) (scaleL m (at0 ls 1) (timesL m N q W))) ∧ OwI u (w10.heap.size) (.slice oH N cH) (scaleL m (at0 ls 2) sq)) (Bx := FlB (w10.heap.size)) rfl rfl (by decide) (by as_aux_lemma => kernel_rfl) (by as_aux_lemma => kernel_rfl) ?al23 ?bx23 ?hs23 ?f23 ?st23 ?step23
        case al23 => as_aux_lemma => (intro u K h; (try dsimp only at h ⊢); go_simp; exact h)
        case bx23 => as_aux_lemma => (rintro u ⟨hd, hG, hH⟩; exact FlB.new hd.size)
        case hs23 => as_aux_lemma =>
          rintro u ⟨hd, hG, hH⟩
          obtain ⟨qs_PB101_0, qs_PB101_1⟩ := PB10.1.below hd (Nat.le_refl _)
          obtain ⟨qs_ZB101_0, qs_ZB101_1⟩ := ZB10.1.below hd (Nat.le_refl _)
          obtain ⟨qs_OO101_0, qs_OO101_1⟩ := OO10.1.below hd (Nat.le_refl _)
          obtain ⟨qs_QB101_0, qs_QB101_1⟩ := QB10.1.below hd (Nat.le_refl _)
          obtain ⟨qs_SB101_0, qs_SB101_1⟩ := SB10.1.below hd (Nat.le_refl _)
          have qs_a0 := (((hv10).below hd (Nat.le_refl _))).cellz (some_at0 (show 0 < ls.length by have := HL.out; omega))
          have qs_a1 := (((hv10).below hd (Nat.le_refl _))).cell0 (some_at0 (show 1 < ls.length by have := HL.out; omega))
          have qs_a2 := (((hv10).below hd (Nat.le_refl _))).cell0 (some_at0 (show 2 < ls.length by have := HL.out; omega))
          go_keep
        case f23 => exact ⟨hd, hG, hH⟩
        case st23 => as_aux_lemma => (rintro u ⟨hd, hG, hH⟩; have hb : Below u.heap.size u (u.alloc (.cells #[.int .i64 0, .slice none 0 0] 51)) := (Below.refl _ _).alloc (Nat.le_refl _) _; exact ⟨hd.trans (hb.mono hd.size), hG.alloc _, hH.alloc _⟩)
        case step23 =>
        clear hsd
        rintro u7 x7 ⟨hd, hG, hH⟩ K hK
        have hsd := hd.size
        obtain ⟨q7_PB101_0, q7_PB101_1⟩ := PB10.1.below hd (Nat.le_refl _)
        obtain ⟨q7_ZB101_0, q7_ZB101_1⟩ := ZB10.1.below hd (Nat.le_refl _)
        obtain ⟨q7_OO101_0, q7_OO101_1⟩ := OO10.1.below hd (Nat.le_refl _)
        obtain ⟨q7_QB101_0, q7_QB101_1⟩ := QB10.1.below hd (Nat.le_refl _)
        obtain ⟨q7_SB101_0, q7_SB101_1⟩ := SB10.1.below hd (Nat.le_refl _)
        have q7_a0 := (((hv10).below hd (Nat.le_refl _))).cellz (some_at0 (show 0 < ls.length by have := HL.out; omega))
        have q7_a1 := (((hv10).below hd (Nat.le_refl _))).cell0 (some_at0 (show 1 < ls.length by have := HL.out; omega))
        have q7_a2 := (((hv10).below hd (Nat.le_refl _))).cell0 (some_at0 (show 2 < ls.length by have := HL.out; omega))
        (try dsimp only)
        go_simp
        go_at_call 57
        refine (plus_n m m N _ _ (addL m N (addL m N p (scaleL m (at0 ls 0) (timesL m N z W))) (scaleL m (at0 ls 1) (timesL m N q W))) (scaleL m (at0 ls 2) sq) _ hG.rd hH.rd (by omega) hN hm hm' (by first | assumption | exact LisN.times (by omega) _ _ | exact LisN.add (by omega) _ _ | exact LisN.scale (by omega) (by first | assumption | exact LisN.times (by omega) _ _) _) (by first | assumption | exact LisN.times (by omega) _ _ | exact LisN.add (by omega) _ _ | exact LisN.scale (by omega) (by first | assumption | exact LisN.times (by omega) _ _) _)).mono ?_
        rintro e v7 ⟨_, rfl, hI, hbI⟩
        obtain ⟨oI, cI, rfl⟩ := hI.shapeN (n := N) (addL_len _ _ _ _)
        go_wp2_with fail
        have hsd7 := hbI.size
        have hrI := hI
        clear hG
        clear hH
        have hI := hI.mono (B' := w10.heap.size) hd.size
        have hd := hd.trans (hbI.mono hd.size)
        obtain ⟨q7n_PB101_0, q7n_PB101_1⟩ := PB10.1.below hd (Nat.le_refl _)
        obtain ⟨q7n_ZB101_0, q7n_ZB101_1⟩ := ZB10.1.below hd (Nat.le_refl _)
        obtain ⟨q7n_OO101_0, q7n_OO101_1⟩ := OO10.1.below hd (Nat.le_refl _)
        obtain ⟨q7n_QB101_0, q7n_QB101_1⟩ := QB10.1.below hd (Nat.le_refl _)
        obtain ⟨q7n_SB101_0, q7n_SB101_1⟩ := SB10.1.below hd (Nat.le_refl _)
        have q7n_a0 := (((hv10).below hd (Nat.le_refl _))).cellz (some_at0 (show 0 < ls.length by have := HL.out; omega))
        have q7n_a1 := (((hv10).below hd (Nat.le_refl _))).cell0 (some_at0 (show 1 < ls.length by have := HL.out; omega))
        have q7n_a2 := (((hv10).below hd (Nat.le_refl _))).cell0 (some_at0 (show 2 < ls.length by have := HL.out; omega))
        have hHeld : (fun w' : World => w'.cell? ⟨w5.heap.size, 0, none⟩ = some (.int .i64 m) ∧ w'.cell? ⟨w5.heap.size, 1, none⟩ = some (.slice op N cp) ∧ w'.cell? ⟨w1.heap.size, 0, none⟩ = some (.int .i64 m) ∧ w'.cell? ⟨w1.heap.size, 1, none⟩ = some (.slice oz N cz) ∧ w'.cell? ⟨w7.heap.size, 0, none⟩ = some (.int .i64 m) ∧ w'.cell? ⟨w7.heap.size, 1, none⟩ = some (.slice ov N cv) ∧ w'.cell? ⟨w3.heap.size, 0, none⟩ = some (.int .i64 m) ∧ w'.cell? ⟨w3.heap.size, 1, none⟩ = some (.slice oq N cq) ∧ w'.cell? ⟨w9.heap.size, 0, none⟩ = some (.int .i64 m) ∧ w'.cell? ⟨w9.heap.size, 1, none⟩ = some (.slice os N cs) ∧ w'.cell? ⟨bl, fl, none⟩ = some (.int .i64 (at0 ls 0)) ∧ w'.cell? ⟨bl, fl + 1, none⟩ = some (.int .i64 (at0 ls 1)) ∧ w'.cell? ⟨bl, fl + 2, none⟩ = some (.int .i64 (at0 ls 2))) v7 := by go_keep
        refine hK.out _ _ (FlE (w10.heap.size) (fun w => RdI w (.slice oI N cI) (addL m N (addL m N (addL m N p (scaleL m (at0 ls 0) (timesL m N z W))) (scaleL m (at0 ls 1) (timesL m N q W))) (scaleL m (at0 ls 2) sq)))) (by rfl) (fun b hb => ⟨hb.below hbI (Nat.le_refl _), hrI.flOld hb.lt⟩) (fun _ => hHeld) ?_
        clear hK K hHeld
        try simp only [List.getElem_toArray, List.getElem_cons_zero, List.getElem_cons_succ, Act.put, List.setIfInBounds_toArray, List.set_cons_zero, List.set_cons_succ]
        clear hsd
        have hsd := hd.size
        refine wpFl_end (f := 23) (Z := (.cells #[.int .i64 0, .slice none 0 0] 51)) (F := fun u => Below (w10.heap.size) w10 u ∧ OwI u (w10.heap.size) (.slice oI N cI) (addL m N (addL m N (addL m N p (scaleL m (at0 ls 0) (timesL m N z W))) (scaleL m (at0 ls 1) (timesL m N q W))) (scaleL m (at0 ls 2) sq))) rfl (by as_aux_lemma => kernel_rfl) ?al24 ?bx24 ?hs24 ?f24 ?st24 ?H24
        case al24 => as_aux_lemma => (intro u K h; (try dsimp only at h ⊢); go_simp; exact h)
        case bx24 => as_aux_lemma => (rintro u ⟨hd, hI⟩; exact ⟨FlB.new hd.size, hI.flNew _⟩)
        case hs24 => as_aux_lemma =>
          rintro u ⟨hd, hI⟩
          obtain ⟨qs_PB101_0, qs_PB101_1⟩ := PB10.1.below hd (Nat.le_refl _)
          obtain ⟨qs_ZB101_0, qs_ZB101_1⟩ := ZB10.1.below hd (Nat.le_refl _)
          obtain ⟨qs_OO101_0, qs_OO101_1⟩ := OO10.1.below hd (Nat.le_refl _)
          obtain ⟨qs_QB101_0, qs_QB101_1⟩ := QB10.1.below hd (Nat.le_refl _)
          obtain ⟨qs_SB101_0, qs_SB101_1⟩ := SB10.1.below hd (Nat.le_refl _)
          have qs_a0 := (((hv10).below hd (Nat.le_refl _))).cellz (some_at0 (show 0 < ls.length by have := HL.out; omega))
          have qs_a1 := (((hv10).below hd (Nat.le_refl _))).cell0 (some_at0 (show 1 < ls.length by have := HL.out; omega))
          have qs_a2 := (((hv10).below hd (Nat.le_refl _))).cell0 (some_at0 (show 2 < ls.length by have := HL.out; omega))
          go_keep
        case f24 => exact ⟨hd, hI⟩
        case st24 => as_aux_lemma => (rintro u ⟨hd, hI⟩; have hb : Below u.heap.size u (u.alloc (.cells #[.int .i64 0, .slice none 0 0] 51)) := (Below.refl _ _).alloc (Nat.le_refl _) _; exact ⟨hd.trans (hb.mono hd.size), hI.alloc _⟩)
        case H24 =>
        rintro u b ⟨hd, hI⟩ ⟨hB, hP⟩
        obtain ⟨⟨z0, z1⟩, zf⟩ := id hB.1
        (try dsimp only)
        refine wpAnyK_oneL (i := 24) rfl (by as_aux_lemma => kernel_rfl) (fun K hK => ?_)
        go_simp
        (try go_wp2_with fail)
        refine hK.out _ _ (fun h => absurd h (by decide)) ?_
        clear hK K
        try simp only [List.getElem_toArray, List.getElem_cons_zero, List.getElem_cons_succ, Act.put, List.setIfInBounds_toArray, List.set_cons_zero, List.set_cons_succ]
        refine wpAnyK_done (by as_aux_lemma => kernel_rfl) ?_ _
        go_wp2_with fail
        go_meet
        exact ⟨b, oI, cI, rfl, hB.1.put _ _, hP _ _, (hd.setCell hB.2 _).setCell hB.2 _⟩
      case rest =>
      obtain ⟨w11, rfl⟩ : ∃ u, u = wc := ⟨_, rfl⟩
      obtain ⟨bn, on, cn, rfl, Rbn, hbn, hb⟩ := hcut
      have hg11 := hg10.trans (hb.mono hg10.size)
      have B11 := B10.trans (hb.mono B10.size)
      have ZB11 := ZB10.below hb (Nat.le_refl _)
      have OO11 := OO10.below hb (Nat.le_refl _)
      have SB11 := SB10.below hb (Nat.le_refl _)
      have hv11 := hv10.below hb (Nat.le_refl _)
      have Z11 := Z10.below hb (Nat.le_refl _)
      have W11 := W10.below hb (Nat.le_refl _)
      have S11 := S10.below hb (Nat.le_refl _)
      have hs11 := hg11.size
      have lNB := Rbn.1.lt
      obtain ⟨nx, hnx⟩ : ∃ nx, nx = (addL m N (addL m N (addL m N p (scaleL m (at0 ls 0) (timesL m N z W))) (scaleL m (at0 ls 1) (timesL m N q W))) (scaleL m (at0 ls 2) sq)) := ⟨_, rfl⟩
      rw [← hnx] at hbn
      have HN : LisN m N nx := by rw [hnx]; exact LisN.add (by omega) _ _
      have HNd := Lib.hid hnx
      have B11s := B11.size
      have l9 : w9.heap.size < w11.heap.size := SB11.1.lt
      clear hnx hb ZB10 OO10 SB10 hv10 Z10 W10 S10 QB10 PB10 R10 Q10 P10 B10 B11 hg10
      go_wp2_with fail
      have hd0 : Below w11.heap.size w11 w11.drew := (Below.refl _ _).drew
      have hsd0 := hd0.size
      have hlb_OO11 := OO11.1.lt
      obtain ⟨⟨q0_OO11_0, q0_OO11_1⟩, qf0_OO11⟩ := OO11.below (Below.refl w11.heap.size w11) (Nat.le_refl _)
      obtain ⟨q0_Rbn1_0, q0_Rbn1_1⟩ := Rbn.1.below (Below.refl w11.heap.size w11) (Nat.le_refl _)
      obtain ⟨q0_ZB111_0, q0_ZB111_1⟩ := ZB11.1.below (Below.refl w11.heap.size w11) (Nat.le_refl _)
      obtain ⟨q0_SB111_0, q0_SB111_1⟩ := SB11.1.below (Below.refl w11.heap.size w11) (Nat.le_refl _)
      have q0_a3 := (((hv11).below (Below.refl w11.heap.size w11) (Nat.le_refl _))).cell0 (some_at0 (show 3 < ls.length by have := HL.out; omega))
      have q0_a4 := (((hv11).below (Below.refl w11.heap.size w11) (Nat.le_refl _))).cell0 (some_at0 (show 4 < ls.length by have := HL.out; omega))
      refine wp_region_S (S := fun w' => w'.cell? ⟨w7.heap.size , 0, none⟩ = some (.int .i64 m) ∧ w'.cell? ⟨w7.heap.size , 1, none⟩ = some (.slice ov N cv) ∧ w'.cell? ⟨bn, 0, none⟩ = some (.int .i64 m) ∧ w'.cell? ⟨bn, 1, none⟩ = some (.slice on N cn) ∧ w'.cell? ⟨w1.heap.size, 0, none⟩ = some (.int .i64 m) ∧ w'.cell? ⟨w1.heap.size, 1, none⟩ = some (.slice oz N cz) ∧ w'.cell? ⟨w9.heap.size, 0, none⟩ = some (.int .i64 m) ∧ w'.cell? ⟨w9.heap.size, 1, none⟩ = some (.slice os N cs) ∧ w'.cell? ⟨bl, fl + 3, none⟩ = some (.int .i64 (at0 ls 3)) ∧ w'.cell? ⟨bl, fl + 4, none⟩ = some (.int .i64 (at0 ls 4))) 17 (by kernel_rfl) ?_
      have hHeld : (fun w' : World => w'.cell? ⟨w7.heap.size , 0, none⟩ = some (.int .i64 m) ∧ w'.cell? ⟨w7.heap.size , 1, none⟩ = some (.slice ov N cv) ∧ w'.cell? ⟨bn, 0, none⟩ = some (.int .i64 m) ∧ w'.cell? ⟨bn, 1, none⟩ = some (.slice on N cn) ∧ w'.cell? ⟨w1.heap.size, 0, none⟩ = some (.int .i64 m) ∧ w'.cell? ⟨w1.heap.size, 1, none⟩ = some (.slice oz N cz) ∧ w'.cell? ⟨w9.heap.size, 0, none⟩ = some (.int .i64 m) ∧ w'.cell? ⟨w9.heap.size, 1, none⟩ = some (.slice os N cs) ∧ w'.cell? ⟨bl, fl + 3, none⟩ = some (.int .i64 (at0 ls 3)) ∧ w'.cell? ⟨bl, fl + 4, none⟩ = some (.int .i64 (at0 ls 4))) w11.drew := by go_keep
      refine' wpAnyS_takeL (i := 0) (v := _) rfl (by kernel_rfl) (by kernel_rfl) (by kernel_rfl) (by kernel_rfl) (fun _ _ _ h => h) (Or.inl ⟨by rfl, ?yT25⟩) hHeld ?rT25
      case yT25 => (intro w' hSw; (try dsimp only at hSw); go_simp; try with_reducible rfl)
      try simp only [List.getElem_toArray, List.getElem_cons_zero, List.getElem_cons_succ, Act.put, List.setIfInBounds_toArray, List.set_cons_zero, List.set_cons_succ]
      refine' wpAnyS_takeL (i := 1) (v := _) rfl (by kernel_rfl) (by kernel_rfl) (by kernel_rfl) (by kernel_rfl) (fun _ _ _ h => h) (Or.inl ⟨by rfl, ?yT26⟩) hHeld ?rT26
      case yT26 => (intro w' hSw; (try dsimp only at hSw); go_simp; try with_reducible rfl)
      try simp only [List.getElem_toArray, List.getElem_cons_zero, List.getElem_cons_succ, Act.put, List.setIfInBounds_toArray, List.set_cons_zero, List.set_cons_succ]
      refine' wpAnyS_takeL (i := 2) (v := _) rfl (by kernel_rfl) (by kernel_rfl) (by kernel_rfl) (by kernel_rfl) (fun _ _ _ h => h) (Or.inl ⟨by rfl, ?yT27⟩) hHeld ?rT27
      case yT27 => (intro w' hSw; (try dsimp only at hSw); go_simp; try with_reducible rfl)
      try simp only [List.getElem_toArray, List.getElem_cons_zero, List.getElem_cons_succ, Act.put, List.setIfInBounds_toArray, List.set_cons_zero, List.set_cons_succ]
      refine' wpAnyS_takeL (i := 4) (v := _) rfl (by kernel_rfl) (by kernel_rfl) (by kernel_rfl) (by kernel_rfl) (fun _ _ _ h => h) (Or.inl ⟨by rfl, ?yT28⟩) hHeld ?rT28
      case yT28 => (intro w' hSw; (try dsimp only at hSw); go_simp; try with_reducible rfl)
      try simp only [List.getElem_toArray, List.getElem_cons_zero, List.getElem_cons_succ, Act.put, List.setIfInBounds_toArray, List.set_cons_zero, List.set_cons_succ]
      refine' wpAnyS_takeL (i := 5) (v := _) rfl (by kernel_rfl) (by kernel_rfl) (by kernel_rfl) (by kernel_rfl) (fun _ _ _ h => h) (Or.inl ⟨by rfl, ?yT29⟩) hHeld ?rT29
      case yT29 => (intro w' hSw; (try dsimp only at hSw); go_simp; try with_reducible rfl)
      try simp only [List.getElem_toArray, List.getElem_cons_zero, List.getElem_cons_succ, Act.put, List.setIfInBounds_toArray, List.set_cons_zero, List.set_cons_succ]
      refine' wpAnyS_takeL (i := 6) (v := _) rfl (by kernel_rfl) (by kernel_rfl) (by kernel_rfl) (by kernel_rfl) (fun _ _ _ h => h) (Or.inl ⟨by rfl, ?yT30⟩) hHeld ?rT30
      case yT30 => (intro w' hSw; (try dsimp only at hSw); go_simp; try with_reducible rfl)
      try simp only [List.getElem_toArray, List.getElem_cons_zero, List.getElem_cons_succ, Act.put, List.setIfInBounds_toArray, List.set_cons_zero, List.set_cons_succ]
      refine' wpAnyS_takeL (i := 9) (v := _) rfl (by kernel_rfl) (by kernel_rfl) (by kernel_rfl) (by kernel_rfl) (fun _ _ _ h => h) (Or.inl ⟨by rfl, ?yT31⟩) hHeld ?rT31
      case yT31 => (intro w' hSw; (try dsimp only at hSw); go_simp; try with_reducible rfl)
      try simp only [List.getElem_toArray, List.getElem_cons_zero, List.getElem_cons_succ, Act.put, List.setIfInBounds_toArray, List.set_cons_zero, List.set_cons_succ]
      refine' wpAnyS_takeL (i := 10) (v := _) rfl (by kernel_rfl) (by kernel_rfl) (by kernel_rfl) (by kernel_rfl) (fun _ _ _ h => h) (Or.inl ⟨by rfl, ?yT32⟩) hHeld ?rT32
      case yT32 => (intro w' hSw; (try dsimp only at hSw); go_simp; try with_reducible rfl)
      try simp only [List.getElem_toArray, List.getElem_cons_zero, List.getElem_cons_succ, Act.put, List.setIfInBounds_toArray, List.set_cons_zero, List.set_cons_succ]
      refine' wpAnyS_takeL (i := 12) (v := _) rfl (by kernel_rfl) (by kernel_rfl) (by kernel_rfl) (by kernel_rfl) (fun _ _ _ h => h) (Or.inl ⟨by rfl, ?yT33⟩) hHeld ?rT33
      case yT33 => (intro w' hSw; (try dsimp only at hSw); go_simp; try with_reducible rfl)
      try simp only [List.getElem_toArray, List.getElem_cons_zero, List.getElem_cons_succ, Act.put, List.setIfInBounds_toArray, List.set_cons_zero, List.set_cons_succ]
      refine' wpAnyS_takeL (i := 13) (v := _) rfl (by kernel_rfl) (by kernel_rfl) (by kernel_rfl) (by kernel_rfl) (fun _ _ _ h => h) (Or.inl ⟨by rfl, ?yT34⟩) hHeld ?rT34
      case yT34 => (intro w' hSw; (try dsimp only at hSw); go_simp; try with_reducible rfl)
      try simp only [List.getElem_toArray, List.getElem_cons_zero, List.getElem_cons_succ, Act.put, List.setIfInBounds_toArray, List.set_cons_zero, List.set_cons_succ]
      refine' wpAnyS_takeL (i := 14) (v := _) rfl (by kernel_rfl) (by kernel_rfl) (by kernel_rfl) (by kernel_rfl) (fun _ _ _ h => h) (Or.inl ⟨by rfl, ?yT35⟩) hHeld ?rT35
      case yT35 => (intro w' hSw; (try dsimp only at hSw); go_simp; try with_reducible rfl)
      try simp only [List.getElem_toArray, List.getElem_cons_zero, List.getElem_cons_succ, Act.put, List.setIfInBounds_toArray, List.set_cons_zero, List.set_cons_succ]
      refine wpAnyS_oneL (i := 3) rfl (by kernel_rfl) (fun K hK => ?_)
      go_simp
      go_at_call 55
      refine (times_n m m N _ _ z sq _ ((Z11).below (by (repeat (first | exact Below.refl _ _ | (refine Below.setCell ?_ (by first | (simp; done) | (simp; omega) | omega) _) | (refine Below.alloc ?_ (by first | (simp; done) | (simp; omega) | omega) _) | (refine below_drewN ?_ _) | (refine Below.drew ?_)))) (Nat.le_refl _)) ((S11).below (by (repeat (first | exact Below.refl _ _ | (refine Below.setCell ?_ (by first | (simp; done) | (simp; omega) | omega) _) | (refine Below.alloc ?_ (by first | (simp; done) | (simp; omega) | omega) _) | (refine below_drewN ?_ _) | (refine Below.drew ?_)))) (Nat.le_refl _)) (by omega) hN hm hm' (by first | assumption | exact LisN.times (by omega) _ _ | exact LisN.add (by omega) _ _ | exact LisN.scale (by omega) (by first | assumption | exact LisN.times (by omega) _ _) _) (by first | assumption | exact LisN.times (by omega) _ _ | exact LisN.add (by omega) _ _ | exact LisN.scale (by omega) (by first | assumption | exact LisN.times (by omega) _ _) _)).mono ?_
      rintro e wd1 ⟨_, rfl, hod1, hbd1⟩
      obtain ⟨oA, cA, rfl⟩ := hod1.shapeN (n := N) (timesL_len _ _ _ _)
      have hd1 : Below w11.heap.size w11 wd1 := (by (repeat (first | exact Below.refl _ _ | (refine Below.setCell ?_ (by first | (simp; done) | (simp; omega) | omega) _) | (refine Below.alloc ?_ (by first | (simp; done) | (simp; omega) | omega) _) | (refine below_drewN ?_ _) | (refine Below.drew ?_) | (refine Below.trans ?_ (Below.mono hbd1 (by first | (simp; done) | (simp; omega) | omega))))))
      have hsd1 := hd1.size
      obtain ⟨⟨q1_OO11_0, q1_OO11_1⟩, qf1_OO11⟩ := OO11.below hd1 (Nat.le_refl _)
      obtain ⟨q1_Rbn1_0, q1_Rbn1_1⟩ := Rbn.1.below hd1 (Nat.le_refl _)
      obtain ⟨q1_ZB111_0, q1_ZB111_1⟩ := ZB11.1.below hd1 (Nat.le_refl _)
      obtain ⟨q1_SB111_0, q1_SB111_1⟩ := SB11.1.below hd1 (Nat.le_refl _)
      have q1_a3 := (((hv11).below hd1 (Nat.le_refl _))).cell0 (some_at0 (show 3 < ls.length by have := HL.out; omega))
      have q1_a4 := (((hv11).below hd1 (Nat.le_refl _))).cell0 (some_at0 (show 4 < ls.length by have := HL.out; omega))
      go_wp2_with fail
      clear hHeld
      have hHeld : (fun w' : World => w'.cell? ⟨w7.heap.size , 0, none⟩ = some (.int .i64 m) ∧ w'.cell? ⟨w7.heap.size , 1, none⟩ = some (.slice ov N cv) ∧ w'.cell? ⟨bn, 0, none⟩ = some (.int .i64 m) ∧ w'.cell? ⟨bn, 1, none⟩ = some (.slice on N cn) ∧ w'.cell? ⟨w1.heap.size, 0, none⟩ = some (.int .i64 m) ∧ w'.cell? ⟨w1.heap.size, 1, none⟩ = some (.slice oz N cz) ∧ w'.cell? ⟨w9.heap.size, 0, none⟩ = some (.int .i64 m) ∧ w'.cell? ⟨w9.heap.size, 1, none⟩ = some (.slice os N cs) ∧ w'.cell? ⟨bl, fl + 3, none⟩ = some (.int .i64 (at0 ls 3)) ∧ w'.cell? ⟨bl, fl + 4, none⟩ = some (.int .i64 (at0 ls 4))) wd1 := by go_keep
      refine hK.out _ _ (fun _ => hHeld) ?_
      clear hK K
      try simp only [List.getElem_toArray, List.getElem_cons_zero, List.getElem_cons_succ, Act.put, List.setIfInBounds_toArray, List.set_cons_zero, List.set_cons_succ]
      refine wpAnyS_oneL (i := 7) rfl (by kernel_rfl) (fun K hK => ?_)
      go_simp
      go_at_call 58
      refine (scaled_n m (at0 ls 3) N _ (timesL m N z sq) _ ((hod1.below (by (repeat (first | exact Below.refl _ _ | (refine Below.setCell ?_ (by first | (simp; done) | (simp; omega) | omega) _) | (refine Below.alloc ?_ (by first | (simp; done) | (simp; omega) | omega) _) | (refine below_drewN ?_ _) | (refine Below.drew ?_)))))).rd (by omega) hN hm hm' (by first | assumption | exact LisN.times (by omega) _ _ | exact LisN.add (by omega) _ _ | exact LisN.scale (by omega) (by first | assumption | exact LisN.times (by omega) _ _) _) (by omega) (by omega)).mono ?_
      rintro e wd2 ⟨_, rfl, hod2, hbd2⟩
      obtain ⟨oB, cB, rfl⟩ := hod2.shapeN (n := N) ((show LisN m N (scaleL m (at0 ls 3) (timesL m N z sq)) from (by first | assumption | exact LisN.times (by omega) _ _ | exact LisN.add (by omega) _ _ | exact LisN.scale (by omega) (by first | assumption | exact LisN.times (by omega) _ _) _)).1)
      have hd2 : Below w11.heap.size w11 wd2 := (by (repeat (first | exact Below.refl _ _ | (refine Below.setCell ?_ (by first | (simp; done) | (simp; omega) | omega) _) | (refine Below.alloc ?_ (by first | (simp; done) | (simp; omega) | omega) _) | (refine below_drewN ?_ _) | (refine Below.drew ?_) | (refine Below.trans ?_ (Below.mono hbd1 (by first | (simp; done) | (simp; omega) | omega))) | (refine Below.trans ?_ (Below.mono hbd2 (by first | (simp; done) | (simp; omega) | omega))))))
      have hsd2 := hd2.size
      obtain ⟨⟨q2_OO11_0, q2_OO11_1⟩, qf2_OO11⟩ := OO11.below hd2 (Nat.le_refl _)
      obtain ⟨q2_Rbn1_0, q2_Rbn1_1⟩ := Rbn.1.below hd2 (Nat.le_refl _)
      obtain ⟨q2_ZB111_0, q2_ZB111_1⟩ := ZB11.1.below hd2 (Nat.le_refl _)
      obtain ⟨q2_SB111_0, q2_SB111_1⟩ := SB11.1.below hd2 (Nat.le_refl _)
      have q2_a3 := (((hv11).below hd2 (Nat.le_refl _))).cell0 (some_at0 (show 3 < ls.length by have := HL.out; omega))
      have q2_a4 := (((hv11).below hd2 (Nat.le_refl _))).cell0 (some_at0 (show 4 < ls.length by have := HL.out; omega))
      go_wp2_with fail
      clear hHeld
      have hHeld : (fun w' : World => w'.cell? ⟨w7.heap.size , 0, none⟩ = some (.int .i64 m) ∧ w'.cell? ⟨w7.heap.size , 1, none⟩ = some (.slice ov N cv) ∧ w'.cell? ⟨bn, 0, none⟩ = some (.int .i64 m) ∧ w'.cell? ⟨bn, 1, none⟩ = some (.slice on N cn) ∧ w'.cell? ⟨w1.heap.size, 0, none⟩ = some (.int .i64 m) ∧ w'.cell? ⟨w1.heap.size, 1, none⟩ = some (.slice oz N cz) ∧ w'.cell? ⟨w9.heap.size, 0, none⟩ = some (.int .i64 m) ∧ w'.cell? ⟨w9.heap.size, 1, none⟩ = some (.slice os N cs) ∧ w'.cell? ⟨bl, fl + 3, none⟩ = some (.int .i64 (at0 ls 3)) ∧ w'.cell? ⟨bl, fl + 4, none⟩ = some (.int .i64 (at0 ls 4))) wd2 := by go_keep
      refine hK.out _ _ (fun _ => hHeld) ?_
      clear hK K
      try simp only [List.getElem_toArray, List.getElem_cons_zero, List.getElem_cons_succ, Act.put, List.setIfInBounds_toArray, List.set_cons_zero, List.set_cons_succ]
      refine wpAnyS_oneL (i := 8) rfl (by kernel_rfl) (fun K hK => ?_)
      go_simp
      go_at_call 57
      refine (plus_n m m N _ _ nx (scaleL m (at0 ls 3) (timesL m N z sq)) _ ((hbn).below (by (repeat (first | exact Below.refl _ _ | (refine Below.setCell ?_ (by first | (simp; done) | (simp; omega) | omega) _) | (refine Below.alloc ?_ (by first | (simp; done) | (simp; omega) | omega) _) | (refine below_drewN ?_ _) | (refine Below.drew ?_) | (refine Below.trans ?_ (Below.mono hbd1 (by first | (simp; done) | (simp; omega) | omega))) | (refine Below.trans ?_ (Below.mono hbd2 (by first | (simp; done) | (simp; omega) | omega)))))) (Nat.le_refl _)) ((hod2.below (by (repeat (first | exact Below.refl _ _ | (refine Below.setCell ?_ (by first | (simp; done) | (simp; omega) | omega) _) | (refine Below.alloc ?_ (by first | (simp; done) | (simp; omega) | omega) _) | (refine below_drewN ?_ _) | (refine Below.drew ?_)))))).rd (by omega) hN hm hm' (by first | assumption | exact LisN.times (by omega) _ _ | exact LisN.add (by omega) _ _ | exact LisN.scale (by omega) (by first | assumption | exact LisN.times (by omega) _ _) _) (by first | assumption | exact LisN.times (by omega) _ _ | exact LisN.add (by omega) _ _ | exact LisN.scale (by omega) (by first | assumption | exact LisN.times (by omega) _ _) _)).mono ?_
      rintro e wd3 ⟨_, rfl, hod3, hbd3⟩
      obtain ⟨oC, cC, rfl⟩ := hod3.shapeN (n := N) (addL_len _ _ _ _)
      have hd3 : Below w11.heap.size w11 wd3 := (by (repeat (first | exact Below.refl _ _ | (refine Below.setCell ?_ (by first | (simp; done) | (simp; omega) | omega) _) | (refine Below.alloc ?_ (by first | (simp; done) | (simp; omega) | omega) _) | (refine below_drewN ?_ _) | (refine Below.drew ?_) | (refine Below.trans ?_ (Below.mono hbd1 (by first | (simp; done) | (simp; omega) | omega))) | (refine Below.trans ?_ (Below.mono hbd2 (by first | (simp; done) | (simp; omega) | omega))) | (refine Below.trans ?_ (Below.mono hbd3 (by first | (simp; done) | (simp; omega) | omega))))))
      have hsd3 := hd3.size
      obtain ⟨⟨q3_OO11_0, q3_OO11_1⟩, qf3_OO11⟩ := OO11.below hd3 (Nat.le_refl _)
      obtain ⟨q3_Rbn1_0, q3_Rbn1_1⟩ := Rbn.1.below hd3 (Nat.le_refl _)
      obtain ⟨q3_ZB111_0, q3_ZB111_1⟩ := ZB11.1.below hd3 (Nat.le_refl _)
      obtain ⟨q3_SB111_0, q3_SB111_1⟩ := SB11.1.below hd3 (Nat.le_refl _)
      have q3_a3 := (((hv11).below hd3 (Nat.le_refl _))).cell0 (some_at0 (show 3 < ls.length by have := HL.out; omega))
      have q3_a4 := (((hv11).below hd3 (Nat.le_refl _))).cell0 (some_at0 (show 4 < ls.length by have := HL.out; omega))
      go_wp2_with fail
      clear hHeld
      have hHeld : (fun w' : World => w'.cell? ⟨w7.heap.size , 0, none⟩ = some (.int .i64 m) ∧ w'.cell? ⟨w7.heap.size , 1, none⟩ = some (.slice ov N cv) ∧ w'.cell? ⟨bn, 0, none⟩ = some (.int .i64 m) ∧ w'.cell? ⟨bn, 1, none⟩ = some (.slice on N cn) ∧ w'.cell? ⟨w1.heap.size, 0, none⟩ = some (.int .i64 m) ∧ w'.cell? ⟨w1.heap.size, 1, none⟩ = some (.slice oz N cz) ∧ w'.cell? ⟨w9.heap.size, 0, none⟩ = some (.int .i64 m) ∧ w'.cell? ⟨w9.heap.size, 1, none⟩ = some (.slice os N cs) ∧ w'.cell? ⟨bl, fl + 3, none⟩ = some (.int .i64 (at0 ls 3)) ∧ w'.cell? ⟨bl, fl + 4, none⟩ = some (.int .i64 (at0 ls 4))) wd3 := by go_keep
      refine hK.out _ _ (fun _ => hHeld) ?_
      clear hK K
      try simp only [List.getElem_toArray, List.getElem_cons_zero, List.getElem_cons_succ, Act.put, List.setIfInBounds_toArray, List.set_cons_zero, List.set_cons_succ]
      refine wpAnyS_oneL (i := 11) rfl (by kernel_rfl) (fun K hK => ?_)
      go_simp
      go_at_call 55
      refine (times_n m m N _ _ sq W _ ((S11).below (by (repeat (first | exact Below.refl _ _ | (refine Below.setCell ?_ (by first | (simp; done) | (simp; omega) | omega) _) | (refine Below.alloc ?_ (by first | (simp; done) | (simp; omega) | omega) _) | (refine below_drewN ?_ _) | (refine Below.drew ?_) | (refine Below.trans ?_ (Below.mono hbd1 (by first | (simp; done) | (simp; omega) | omega))) | (refine Below.trans ?_ (Below.mono hbd2 (by first | (simp; done) | (simp; omega) | omega))) | (refine Below.trans ?_ (Below.mono hbd3 (by first | (simp; done) | (simp; omega) | omega)))))) (Nat.le_refl _)) ((W11).below (by (repeat (first | exact Below.refl _ _ | (refine Below.setCell ?_ (by first | (simp; done) | (simp; omega) | omega) _) | (refine Below.alloc ?_ (by first | (simp; done) | (simp; omega) | omega) _) | (refine below_drewN ?_ _) | (refine Below.drew ?_) | (refine Below.trans ?_ (Below.mono hbd1 (by first | (simp; done) | (simp; omega) | omega))) | (refine Below.trans ?_ (Below.mono hbd2 (by first | (simp; done) | (simp; omega) | omega))) | (refine Below.trans ?_ (Below.mono hbd3 (by first | (simp; done) | (simp; omega) | omega)))))) (Nat.le_refl _)) (by omega) hN hm hm' (by first | assumption | exact LisN.times (by omega) _ _ | exact LisN.add (by omega) _ _ | exact LisN.scale (by omega) (by first | assumption | exact LisN.times (by omega) _ _) _) (by first | assumption | exact LisN.times (by omega) _ _ | exact LisN.add (by omega) _ _ | exact LisN.scale (by omega) (by first | assumption | exact LisN.times (by omega) _ _) _)).mono ?_
      rintro e wd4 ⟨_, rfl, hod4, hbd4⟩
      have hsz4 := hbd4.size; obtain ⟨oD, cD, rfl⟩ := hod4.shapeN (n := N) (timesL_len _ _ _ _)
      have hd4 : Below w11.heap.size w11 wd4 := (by (repeat (first | exact Below.refl _ _ | (refine Below.setCell ?_ (by first | (simp; done) | (simp; omega) | omega) _) | (refine Below.alloc ?_ (by first | (simp; done) | (simp; omega) | omega) _) | (refine below_drewN ?_ _) | (refine Below.drew ?_) | (refine Below.trans ?_ (Below.mono hbd1 (by first | (simp; done) | (simp; omega) | omega))) | (refine Below.trans ?_ (Below.mono hbd2 (by first | (simp; done) | (simp; omega) | omega))) | (refine Below.trans ?_ (Below.mono hbd3 (by first | (simp; done) | (simp; omega) | omega))) | (refine Below.trans ?_ (Below.mono hbd4 (by first | (simp; done) | (simp; omega) | omega))))))
      have hsd4 := hd4.size
      obtain ⟨⟨q4_OO11_0, q4_OO11_1⟩, qf4_OO11⟩ := OO11.below hd4 (Nat.le_refl _)
      obtain ⟨q4_Rbn1_0, q4_Rbn1_1⟩ := Rbn.1.below hd4 (Nat.le_refl _)
      obtain ⟨q4_ZB111_0, q4_ZB111_1⟩ := ZB11.1.below hd4 (Nat.le_refl _)
      obtain ⟨q4_SB111_0, q4_SB111_1⟩ := SB11.1.below hd4 (Nat.le_refl _)
      have q4_a3 := (((hv11).below hd4 (Nat.le_refl _))).cell0 (some_at0 (show 3 < ls.length by have := HL.out; omega))
      have q4_a4 := (((hv11).below hd4 (Nat.le_refl _))).cell0 (some_at0 (show 4 < ls.length by have := HL.out; omega))
      go_wp2_with fail
      clear hHeld
      have hHeld : (fun w' : World => w'.cell? ⟨w7.heap.size , 0, none⟩ = some (.int .i64 m) ∧ w'.cell? ⟨w7.heap.size , 1, none⟩ = some (.slice ov N cv) ∧ w'.cell? ⟨bn, 0, none⟩ = some (.int .i64 m) ∧ w'.cell? ⟨bn, 1, none⟩ = some (.slice on N cn) ∧ w'.cell? ⟨w1.heap.size, 0, none⟩ = some (.int .i64 m) ∧ w'.cell? ⟨w1.heap.size, 1, none⟩ = some (.slice oz N cz) ∧ w'.cell? ⟨w9.heap.size, 0, none⟩ = some (.int .i64 m) ∧ w'.cell? ⟨w9.heap.size, 1, none⟩ = some (.slice os N cs) ∧ w'.cell? ⟨bl, fl + 3, none⟩ = some (.int .i64 (at0 ls 3)) ∧ w'.cell? ⟨bl, fl + 4, none⟩ = some (.int .i64 (at0 ls 4))) wd4 := by go_keep
      refine hK.out _ _ (fun _ => hHeld) ?_
      clear hK K
      try simp only [List.getElem_toArray, List.getElem_cons_zero, List.getElem_cons_succ, Act.put, List.setIfInBounds_toArray, List.set_cons_zero, List.set_cons_succ]
      refine wpAnyS_oneL (i := 15) rfl (by kernel_rfl) (fun K hK => ?_)
      go_simp
      go_at_call 58
      refine (scaled_n m (at0 ls 4) N _ (timesL m N sq W) _ ((hod4.below (by (repeat (first | exact Below.refl _ _ | (refine Below.setCell ?_ (by first | (simp; done) | (simp; omega) | omega) _) | (refine Below.alloc ?_ (by first | (simp; done) | (simp; omega) | omega) _) | (refine below_drewN ?_ _) | (refine Below.drew ?_)))))).rd (by omega) hN hm hm' (by first | assumption | exact LisN.times (by omega) _ _ | exact LisN.add (by omega) _ _ | exact LisN.scale (by omega) (by first | assumption | exact LisN.times (by omega) _ _) _) (by omega) (by omega)).mono ?_
      rintro e wd5 ⟨_, rfl, hod5, hbd5⟩
      have hsz5 := hbd5.size; obtain ⟨oE, cE, rfl⟩ := hod5.shapeN (n := N) ((show LisN m N (scaleL m (at0 ls 4) (timesL m N sq W)) from (by first | assumption | exact LisN.times (by omega) _ _ | exact LisN.add (by omega) _ _ | exact LisN.scale (by omega) (by first | assumption | exact LisN.times (by omega) _ _) _)).1)
      have hd5 : Below w11.heap.size w11 wd5 := (by (repeat (first | exact Below.refl _ _ | (refine Below.setCell ?_ (by first | (simp; done) | (simp; omega) | omega) _) | (refine Below.alloc ?_ (by first | (simp; done) | (simp; omega) | omega) _) | (refine below_drewN ?_ _) | (refine Below.drew ?_) | (refine Below.trans ?_ (Below.mono hbd1 (by first | (simp; done) | (simp; omega) | omega))) | (refine Below.trans ?_ (Below.mono hbd2 (by first | (simp; done) | (simp; omega) | omega))) | (refine Below.trans ?_ (Below.mono hbd3 (by first | (simp; done) | (simp; omega) | omega))) | (refine Below.trans ?_ (Below.mono hbd4 (by first | (simp; done) | (simp; omega) | omega))) | (refine Below.trans ?_ (Below.mono hbd5 (by first | (simp; done) | (simp; omega) | omega))))))
      have hsd5 := hd5.size
      obtain ⟨⟨q5_OO11_0, q5_OO11_1⟩, qf5_OO11⟩ := OO11.below hd5 (Nat.le_refl _)
      obtain ⟨q5_Rbn1_0, q5_Rbn1_1⟩ := Rbn.1.below hd5 (Nat.le_refl _)
      obtain ⟨q5_ZB111_0, q5_ZB111_1⟩ := ZB11.1.below hd5 (Nat.le_refl _)
      obtain ⟨q5_SB111_0, q5_SB111_1⟩ := SB11.1.below hd5 (Nat.le_refl _)
      have q5_a3 := (((hv11).below hd5 (Nat.le_refl _))).cell0 (some_at0 (show 3 < ls.length by have := HL.out; omega))
      have q5_a4 := (((hv11).below hd5 (Nat.le_refl _))).cell0 (some_at0 (show 4 < ls.length by have := HL.out; omega))
      go_wp2_with fail
      clear hHeld
      have hHeld : (fun w' : World => w'.cell? ⟨w7.heap.size , 0, none⟩ = some (.int .i64 m) ∧ w'.cell? ⟨w7.heap.size , 1, none⟩ = some (.slice ov N cv) ∧ w'.cell? ⟨bn, 0, none⟩ = some (.int .i64 m) ∧ w'.cell? ⟨bn, 1, none⟩ = some (.slice on N cn) ∧ w'.cell? ⟨w1.heap.size, 0, none⟩ = some (.int .i64 m) ∧ w'.cell? ⟨w1.heap.size, 1, none⟩ = some (.slice oz N cz) ∧ w'.cell? ⟨w9.heap.size, 0, none⟩ = some (.int .i64 m) ∧ w'.cell? ⟨w9.heap.size, 1, none⟩ = some (.slice os N cs) ∧ w'.cell? ⟨bl, fl + 3, none⟩ = some (.int .i64 (at0 ls 3)) ∧ w'.cell? ⟨bl, fl + 4, none⟩ = some (.int .i64 (at0 ls 4))) wd5 := by go_keep
      refine hK.out _ _ (fun _ => hHeld) ?_
      clear hK K
      try simp only [List.getElem_toArray, List.getElem_cons_zero, List.getElem_cons_succ, Act.put, List.setIfInBounds_toArray, List.set_cons_zero, List.set_cons_succ]
      refine wpAnyS_oneL (i := 16) rfl (by kernel_rfl) (fun K hK => ?_)
      go_simp
      go_at_call 57
      refine (plus_n m m N _ _ (addL m N nx (scaleL m (at0 ls 3) (timesL m N z sq))) (scaleL m (at0 ls 4) (timesL m N sq W)) _ ((hod3.below (by (repeat (first | exact Below.refl _ _ | (refine Below.setCell ?_ (by first | (simp; done) | (simp; omega) | omega) _) | (refine Below.alloc ?_ (by first | (simp; done) | (simp; omega) | omega) _) | (refine below_drewN ?_ _) | (refine Below.drew ?_) | (refine Below.trans ?_ (Below.mono hbd4 (by first | (simp; done) | (simp; omega) | omega))) | (refine Below.trans ?_ (Below.mono hbd5 (by first | (simp; done) | (simp; omega) | omega)))))))).rd ((hod5.below (by (repeat (first | exact Below.refl _ _ | (refine Below.setCell ?_ (by first | (simp; done) | (simp; omega) | omega) _) | (refine Below.alloc ?_ (by first | (simp; done) | (simp; omega) | omega) _) | (refine below_drewN ?_ _) | (refine Below.drew ?_)))))).rd (by omega) hN hm hm' (by first | assumption | exact LisN.times (by omega) _ _ | exact LisN.add (by omega) _ _ | exact LisN.scale (by omega) (by first | assumption | exact LisN.times (by omega) _ _) _) (by first | assumption | exact LisN.times (by omega) _ _ | exact LisN.add (by omega) _ _ | exact LisN.scale (by omega) (by first | assumption | exact LisN.times (by omega) _ _) _)).mono ?_
      rintro e wd6 ⟨_, rfl, hod6, hbd6⟩
      obtain ⟨oG, cG, rfl⟩ := hod6.shapeN (n := N) (addL_len _ _ _ _)
      have hd6 : Below w11.heap.size w11 wd6 := (by (repeat (first | exact Below.refl _ _ | (refine Below.setCell ?_ (by first | (simp; done) | (simp; omega) | omega) _) | (refine Below.alloc ?_ (by first | (simp; done) | (simp; omega) | omega) _) | (refine below_drewN ?_ _) | (refine Below.drew ?_) | (refine Below.trans ?_ (Below.mono hbd1 (by first | (simp; done) | (simp; omega) | omega))) | (refine Below.trans ?_ (Below.mono hbd2 (by first | (simp; done) | (simp; omega) | omega))) | (refine Below.trans ?_ (Below.mono hbd3 (by first | (simp; done) | (simp; omega) | omega))) | (refine Below.trans ?_ (Below.mono hbd4 (by first | (simp; done) | (simp; omega) | omega))) | (refine Below.trans ?_ (Below.mono hbd5 (by first | (simp; done) | (simp; omega) | omega))) | (refine Below.trans ?_ (Below.mono hbd6 (by first | (simp; done) | (simp; omega) | omega))))))
      have hsd6 := hd6.size
      obtain ⟨⟨q6_OO11_0, q6_OO11_1⟩, qf6_OO11⟩ := OO11.below hd6 (Nat.le_refl _)
      obtain ⟨q6_Rbn1_0, q6_Rbn1_1⟩ := Rbn.1.below hd6 (Nat.le_refl _)
      obtain ⟨q6_ZB111_0, q6_ZB111_1⟩ := ZB11.1.below hd6 (Nat.le_refl _)
      obtain ⟨q6_SB111_0, q6_SB111_1⟩ := SB11.1.below hd6 (Nat.le_refl _)
      have q6_a3 := (((hv11).below hd6 (Nat.le_refl _))).cell0 (some_at0 (show 3 < ls.length by have := HL.out; omega))
      have q6_a4 := (((hv11).below hd6 (Nat.le_refl _))).cell0 (some_at0 (show 4 < ls.length by have := HL.out; omega))
      go_wp2_with fail
      clear hHeld
      have hHeld : (fun w' : World => w'.cell? ⟨w7.heap.size , 0, none⟩ = some (.int .i64 m) ∧ w'.cell? ⟨w7.heap.size , 1, none⟩ = some (.slice ov N cv) ∧ w'.cell? ⟨bn, 0, none⟩ = some (.int .i64 m) ∧ w'.cell? ⟨bn, 1, none⟩ = some (.slice on N cn) ∧ w'.cell? ⟨w1.heap.size, 0, none⟩ = some (.int .i64 m) ∧ w'.cell? ⟨w1.heap.size, 1, none⟩ = some (.slice oz N cz) ∧ w'.cell? ⟨w9.heap.size, 0, none⟩ = some (.int .i64 m) ∧ w'.cell? ⟨w9.heap.size, 1, none⟩ = some (.slice os N cs) ∧ w'.cell? ⟨bl, fl + 3, none⟩ = some (.int .i64 (at0 ls 3)) ∧ w'.cell? ⟨bl, fl + 4, none⟩ = some (.int .i64 (at0 ls 4))) wd6 := by go_keep
      refine hK.out _ _ (fun _ => hHeld) ?_
      clear hK K
      try simp only [List.getElem_toArray, List.getElem_cons_zero, List.getElem_cons_succ, Act.put, List.setIfInBounds_toArray, List.set_cons_zero, List.set_cons_succ]
      refine wpAnyS_oneL (i := 17) rfl (by kernel_rfl) (fun K hK => ?_)
      go_simp
      (try go_wp2_with fail)
      refine hK.out _ _ (fun h => absurd h (by decide)) ?_
      clear hK K
      try simp only [List.getElem_toArray, List.getElem_cons_zero, List.getElem_cons_succ, Act.put, List.setIfInBounds_toArray, List.set_cons_zero, List.set_cons_succ]
      refine wpAnyS_done (by kernel_rfl) ?_ _
      have hOn := OO11.below hd6 (Nat.le_refl _)
      go_wp2_with fail
      have hgZ : w11.grownBy ((wd6.setCell ⟨w7.heap.size , 0, none⟩ (.int .i64 m)).setCell ⟨w7.heap.size , 1, none⟩ (.slice oG N cG)) (some w7.heap.size ) := (gr_put (gr_put (show w11.grownBy wd6 (some w7.heap.size ) from World.grownBy.mk hd6.os hd6.tape hd6.output hd6.size (fun k hk _ => hd6.block k hk)) _ _) _ _)
      have hOZ : RB2 ((wd6.setCell ⟨w7.heap.size , 0, none⟩ (.int .i64 m)).setCell ⟨w7.heap.size , 1, none⟩ (.slice oG N cG)) w7.heap.size  (.int .i64 m) (.slice oG N cG) := RB2.put hOn _ _
      have hRZ : OwI ((wd6.setCell ⟨w7.heap.size , 0, none⟩ (.int .i64 m)).setCell ⟨w7.heap.size , 1, none⟩ (.slice oG N cG)) w11.heap.size (.slice oG N cG) (addL m N (addL m N nx (scaleL m (at0 ls 3) (timesL m N z sq))) (scaleL m (at0 ls 4) (timesL m N sq W))) := ((hod6.low (by first | (simp; done) | (simp; omega) | omega) _).low (by first | (simp; done) | (simp; omega) | omega) _).mono (by first | (simp; done) | (simp; omega) | omega)
      have hT : addL m N (addL m N nx (scaleL m (at0 ls 3) (timesL m N z sq))) (scaleL m (at0 ls 4) (timesL m N sq W)) = weiI m N (at0 ls) (k + 1) := by rw [HWd.out, HNd.out, HSd.out, HCd.out, HQd.out, HZd.out]; rfl
      rw [hT] at hRZ
      exact ⟨⟨k + 1, oG, cG, by omega, by go_num, hRZ.mono (by omega), hOZ, hg11.grown hgZ hs11 (fun j hj => by cases hj; exact Nat.le_refl _)⟩, by simp [intOf]; omega⟩
    · have hkN := HWe.out (by omega)
      have i0 : ¬ (k : Int) < (N : Int) - 1 := by omega
      rw [hkN] at hO
      obtain ⟨⟨r0, r1⟩, rf⟩ := id Rr
      have hOs := hO.lt
      go_wp2
      refine bodyPost_ret (v := .agg #[.int .i64 m, .slice ov N cv]) (by simp [results, Try.results31, go_sem, r0, r1]) rfl ⟨_, rfl, ?_, ?_⟩
      · exact ((hO.low (by first | (simp; done) | (simp; omega) | omega) _).low (by first | (simp; done) | (simp; omega) | omega) _).mono (by omega)
      · (repeat (first | exact Below.refl _ _ | (refine Below.setCell ?_ (by first | (simp; done) | (simp; omega) | omega) _) | (refine Below.alloc ?_ (by first | (simp; done) | (simp; omega) | omega) _) | (refine below_drewN ?_ _) | (refine Below.drew ?_) | (refine Below.trans ?_ (Below.mono B7 (by first | (simp; done) | (simp; omega) | omega))) | (refine Below.trans ?_ (Below.mono hg (by first | (simp; done) | (simp; omega) | omega)))))
end Go.Proofs.Ytmmneicblcjkjaa
