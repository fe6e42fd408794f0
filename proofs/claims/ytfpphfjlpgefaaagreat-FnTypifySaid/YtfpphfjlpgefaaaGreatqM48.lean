/- Lemmas. -/
import Derived.Test.YtfpphfjlpgefaaaGreatqM47
import Derived.Test.YtfpphfjlpgefaaaGreatqM5
import Derived.Test.YtfpphfjlpgefaaaGreatqG22
import Derived.Test.YtfpphfjlpgefaaaGreatqM31
import Derived.Test.YtfpphfjlpgefaaaGreatqM1
import Derived.ProofKit
import Derived.Lib.SmallJoins
set_option maxHeartbeats 4000000
set_option maxRecDepth 100000
set_option linter.unusedSimpArgs false
set_option linter.unusedVariables false
namespace Go.Proofs.YtfpphfjlpgefaaaGreat
open Go.RowKit
section

theorem prim_n {p : Int} (h : p = 2 ∨ p = 3 ∨ p = 5 ∨ p = 7) : ∃ q : Nat, p = q ∧ P4 q := by
 rcases h with rfl | rfl | rfl | rfl
 ·exact ⟨2, rfl, .inl rfl⟩
 ·exact ⟨3, rfl, .inr (.inl rfl)⟩
 ·exact ⟨5, rfl, .inr (.inr (.inl rfl))⟩
 ·exact ⟨7, rfl, .inr (.inr (.inr rfl))⟩
theorem qLS (B n b : Nat) (w : World) (hs : Src w B n b) :
  Calls Tryz.prog 102 #[.pointer (some ⟨b, 0, none⟩)] w fun e w' => NEnd w w' B n b e := by
 go_enter Tryz.func102, Tryz.ntmps102
 go_wp2_with fail
 refine (qCw B n b _ _ [2, 2, 3, 3, 5, 7, 2, 3, 2, 3, 2, 11, 4, 0] _ w hs Oo rfl rfl (by simp) (by simp)).mono ?_
 rintro e w3 ⟨t, rfl, _, hd3, hz3⟩
 go_wp2
 go_ret
 exact ⟨_, rfl, hd3⟩
theorem qPB (B n b : Nat) (w : World) (hs : Src w B n b) :
  Calls Tryz.prog 184 #[.pointer (some ⟨b, 0, none⟩)] w fun e w' => NEnd w w' B n b e := by
 go_enter Tryz.func184, Tryz.ntmps184
 go_wp2_with fail
 refine (qAz B n b _ w hs).mono ?_
 rintro e w1 ⟨r, rfl, r0, r1, r2, hd1, hz1⟩
 by_cases hr : r = 0
 ·subst hr
  go_wp2_with fail
  refine (qCw B n b _ _ [0, 1, -5, 10001, 1099511627776] _ w1 hd1.src Oo rfl rfl (by simp) (by simp)).mono ?_; rintro e w3 ⟨t, rfl, _, hd3, hz3⟩; go_wp2; go_ret; exact ⟨_, rfl, hd1.trans hd3⟩
 ·have hr1 : ¬ r = 0 := hr
  go_wp2_with fail
  refine (qOn B n b w1 hd1.src).mono ?_; rintro e w2 ⟨q, rfl, hd2⟩; go_wp2; go_ret; exact ⟨_, rfl, hd1.trans hd2⟩

def MaD (w w' : World) (B n b : Nat) (e : Ending) : Prop := ∃ p m v xs, e = .returned (.tuple #[.int .i64 p, .int .i64 m, v]) ∧ OwI w' w.heap.size v xs ∧ DW B n b w w'

theorem qNf (B n b : Nat) (w : World) (hs : Src w B n b) :
  Calls Tryz.prog 135 #[.pointer (some ⟨b, 0, none⟩)] w fun e w' => MaD w w' B n b e := by
 have hlt := hs.lt
 go_enter Tryz.func135, Tryz.ntmps135
 go_wp2_with fail
 refine (qLS B n b w hs).mono ?_
 rintro e w1 ⟨p, rfl, hd1⟩
 go_wp2_with fail
 refine (qPB B n b w1 hd1.src).mono ?_
 rintro e w2 ⟨m, rfl, hd2⟩
 have hd2 := hd1.trans hd2
 clear hd1
 go_upto_region 2 with fail
 go_cut [18] from 12 to 18 (fun s u => ∃ Q : Bool, s = .bool Q ∧ DW B n b w u)
 case first =>
  go_wp2_with fail
  refine (qAz B n b _ w2 hd2.src).mono ?_; rintro e w3 ⟨x, rfl, -, -, -, hd3, -⟩; have hd3 := hd2.trans hd3
  by_cases hx : x = 0
  ·subst hx
   go_wp2_with fail
   refine (qDx p _).mono ?_; rintro e w4 ⟨rfl, rfl⟩
   go_wp2_with fail
   go_meet
   case rel => exact ⟨_, rfl, hd3⟩
  ·have hx1 : (x == 0) = false := by simpa using hx
   go_wp2_with fail
   go_meet
   case rel => exact ⟨_, rfl, hd3⟩
 case rest =>
 clear hd2
 obtain ⟨Q, rfl, hd2⟩ := hcut
 obtain ⟨w2, rfl⟩ : ∃ u, u = wc := ⟨_, rfl⟩
 go_upto_if 18 with fail
 go_cut [6] from 19 to 30 (fun s u => ∃ q : Int, s = .int .i64 q ∧ DW B n b w u)
 case first =>
  cases Q
  ·go_wp2_with fail
   go_meet
   case rel => exact ⟨_, rfl, hd2⟩
  ·obtain ⟨p2, hp2⟩ : ∃ y, IntKind.i64.wrap (p * p) = y := ⟨_, rfl⟩; obtain ⟨p3, hp3⟩ : ∃ y, IntKind.i64.wrap (p2 * p) = y := ⟨_, rfl⟩
   go_wp2_with fail
   refine (qCw B n b _ _ [p, p2, p3] _ w2 hd2.src Oo rfl rfl (by simp) (by simp)).mono ?_; rintro e w5 ⟨t, rfl, _, hd5, hz5⟩; have hd5 := hd2.trans hd5
   go_wp2_with fail
   go_meet
   case rel => exact ⟨_, rfl, hd5⟩
 case rest =>
  clear hd2; obtain ⟨q, rfl, hd3⟩ := hcut; obtain ⟨w3, rfl⟩ : ∃ u, u = wc := ⟨_, rfl⟩
  go_wp2_with fail
  refine (qAz B n b _ w3 hd3.src).mono ?_; rintro e w4 ⟨x, rfl, x0, x1, x2, hd4, -⟩; have x1 := x1 Oo; have hd4 := hd3.trans hd4; clear hd3 x2
  go_wp2_with fail
  refine (qJU B n b q x x.toNat w4 hd4.src Oo Oo).mono ?_; rintro e w5 ⟨v5, xs, rfl, hO5, hl5, hd5⟩; have hO5 := hO5.mono hd4.size; have hd5 := hd4.trans hd5; obtain ⟨o5, c5, rfl⟩ := hO5.shape; have hl9 : xs.length ≤ 4 := Oo; clear hd4 hl5
  go_wp2_with fail
  refine (qAz B n b _ w5 hd5.src).mono ?_; rintro e w6 ⟨y, rfl, y0, y1, y2, hd6, -⟩; have hO6 := hO5.dw hd6 hlt; have hd6 := hd5.trans hd6; clear y1 y2 hO5 hd5
  by_cases hy : y = 0
  ·subst hy
   go_wp2_with fail
   refine (qO1 B n b q w6 hd6.src).mono ?_; rintro e w7 ⟨t, rfl, hd7⟩; have hO7 := hO6.dw hd7 hlt; have hd7 := hd6.trans hd7; have hOl := hO7.lt; have hD8 := hd7.alloc (.cells #[.int .i64 t] 2); have hz7 := hd7.size; clear hO6 hd6
   go_wp2_with (at_builtin; go_loud (refine apR _ rfl _ _ rfl w.heap.size (.slice o5 xs.length c5) xs rfl (hO7.alloc _) ⟨w7.heap.size, 0, none⟩ 1 1 [t] rfl (OwI.lit w7 [t] (by simp [maxLen])).rd (by simp; omega) (by simp; omega) ?_; intro o8 c8 w8 hO8 hg8 hb8; have hD8 := hD8.grown hg8 (fun k hk => (hOl _ hk).1); clear hg8 hb8))
   exact bodyPost_ret (v := .tuple #[.int .i64 p, .int .i64 q, .slice o8 (xs ++ [t]).length c8]) (by simp [results, Tryz.results135, go_sem]) rfl ⟨p, q, _, xs ++ [t], rfl, hO8, hD8⟩
  ·have hy0 : (y == 0) = false := by simpa using hy
   by_cases hy1 : y = 1
   ·subst hy1
    go_wp2_with fail
    refine (qJU B n b q 4 4 w6 hd6.src Oo Oo).mono ?_; rintro e w7 ⟨v7, ys, rfl, hO7, hl7, hd7⟩; have hO7 := hO7.mono hd6.size; have hd7 := hd6.trans hd7; go_wp2; exact bodyPost_ret (v := .tuple #[.int .i64 p, .int .i64 q, v7]) (by simp [results, Tryz.results135, go_sem]) rfl ⟨p, q, _, ys, rfl, hO7, hd7⟩
   ·have hy2 : (y == 1) = false := by simpa using hy1
    go_wp2; exact bodyPost_ret (v := .tuple #[.int .i64 p, .int .i64 q, .slice o5 xs.length c5]) (by simp [results, Tryz.results135, go_sem]) rfl ⟨p, q, _, xs, rfl, hO6, hd6⟩

def PLDr (w w' : World) (e : Ending) : Prop := ∃ p m v tt h1, e = .returned (.tuple #[.int .i64 p, .agg #[.int .i64 m, v]]) ∧ Rds w.heap.size h1 w' (fun x => RdT x v tt) ∧ Below w.heap.size w w'

theorem qP8 (B n : Nat) (v : Value) (w : World) (hv : RdB w B n v) (hB : B ≤ w.heap.size) :
  Calls Tryz.prog 67 #[v] w fun e w' => PLDr w w' e := by
 obtain ⟨ov, cv, rfl, hmv, hcv⟩ := id hv
 clear hmv hcv
 go_enter Tryz.func67, Tryz.ntmps67
 go_wp2_with fail
 have hR0 := RB2.mk1 w (.int .i64 0) (.slice none 0 0) 26
 have hb0 : Below w.heap.size w (w.alloc (.cells #[.int .i64 0, .slice none 0 0] 26)) := bZ
 generalize w.alloc (.cells #[.int .i64 0, .slice none 0 0] 26) = w0 at hR0 hb0 ⊢
 have hv0 := hv.keep (w' := w0) (fun k hk => hb0.block k Oo)
 refine (qJz B n _ w0 hv0 (by have := hb0.size; omega)).mono ?_
 rintro e w1 ⟨b, rfl, hs1, hb1⟩
 have hbl := hs1.1
 have hlt := hs1.lt
 have hl0 := hR0.1.lt
 have hR1 := hR0.below hb1
 have hb1 := hb0.trans (hb1.mono hb0.size)
 have hw1 := hb1.size
 clear hR0 hb0 hv0
 go_wp2_with fail
 refine (qNf _ n b w1 hs1).mono ?_
 rintro e w2 ⟨p, m, vl, xs, rfl, hO2, hd2⟩
 obtain ⟨ol, cl, rfl⟩ := hO2.shape
 have hz2 := hd2.size
 have hR2 := hR1.chg hd2.chg (.inl Oo)
 clear hR1
 go_upto_region 3 with fail
 go_cut [25] from 16 to 25 (fun s u => ∃ Q : Bool, s = .bool Q ∧ Hid (Q = true → qBk p m xs 0 = 0) ∧ OwI u w1.heap.size (.slice ol xs.length cl) xs ∧ RB2 u w.heap.size (.int .i64 0) (.slice none 0 0) ∧ DW w0.heap.size n b w1 u)
 case first =>
  go_wp2_with fail
  refine (qME p m _ xs 0 w2 hO2.rd).mono ?_; rintro e w3 ⟨rfl, hb3⟩; have hO3 := hO2.below hb3; have hR3 := hR2.below hb3; have hd3 := hd2.below hb3; clear hO2 hR2 hd2 hb3; cases hc : (qBk p m xs 0 == 0)
  ·go_wp2_with fail
   go_meet
   case rel => exact ⟨false, rfl, dd (fun h => by cases h), hO3, hR3, hd3⟩
  ·have hc0 : qBk p m xs 0 = 0 := by simpa using hc
   have HC := dd hc0; clear hc0
   go_wp2_with fail
   refine (qAz _ n b _ w3 hd3.src).mono ?_; rintro e w4 ⟨y, rfl, -, -, -, hd4, -⟩; have hO4 := hO3.dw hd4 hlt; have hR4 := hR3.chg hd4.chg (.inl Oo); have hd4 := hd3.trans hd4
   go_wp2_with fail
   go_meet
   case rel => exact ⟨_, rfl, dd (fun _ => HC.out), hO4, hR4, hd4⟩
 case rest =>
  clear hO2 hR2 hd2; obtain ⟨Q, rfl, HQ, hO3, hR3, hd3⟩ := hcut; obtain ⟨w3, rfl⟩ : ∃ u, u = wc := ⟨_, rfl⟩; have hl3 := hR3.1.lt; cases Q
  ·go_wp2_with fail
   refine (qJa _ n b w3 hd3.src).mono ?_; intro e w4 hsp; obtain ⟨m', ot, q, ct, hi, tt, rfl, hq, hA4, hd4⟩ := hsp.read; clear hsp; have hR4 := hR3.chg hd4.chg (.inl Oo); have hz3 := hd3.size; have hd4 := hd3.trans hd4; obtain ⟨⟨r0, r1⟩, rf⟩ := id hR4
   go_wp2_with fail
   refine bodyPost_ret (v := .tuple #[.int .i64 p, .agg #[.int .i64 m', .slice ot q ct]]) (by simp [results, Tryz.results67, go_sem, r0, r1]) rfl ⟨p, m', _, tt, hi, rfl, ?_, ?_⟩
   ·exact ((hA4.put (.inl Oo) _ _).put (.inl Oo) _ _).weak Oo
   ·exact qAL (qAL (hd4.out hb1 Oo) Oo _) Oo _
  ·obtain ⟨hm, hm', hp0, -, hl, hx⟩ := qLx (HQ.out rfl); obtain ⟨P, rfl, hP⟩ := prim_n (qFn hp0); clear HQ
   go_wp2_with fail
   refine (qAz _ n b _ w3 hd3.src).mono ?_; rintro e w4 ⟨r, rfl, r0, r1, -, hd4, -⟩; have r1 := r1 Oo; obtain ⟨D, hD⟩ : ∃ D : Nat, 1 + r = (D : Int) := ⟨(1 + r).toNat, Oo⟩; have hO4 := hO3.dw hd4 hlt; have hR4 := hR3.chg hd4.chg (.inl Oo); have hd4 := hd3.trans hd4; have hz4 := hd4.size; clear hO3 hR3 hd3
   go_wp2_with fail
   refine (qEi P D m _ xs w4 hO4.rd hP Oo Oo hm hm' hl hx).mono ?_; rintro e w5 ⟨vt, rfl, hT5, hb5⟩; obtain ⟨ot, ct, rfl⟩ := hT5.shape; have hR5 := hR4.below hb5; have hd5 := hd4.below hb5; clear hO4 hR4 hd4 hb5
   go_wp2_with fail
   refine (qGP m _ _ _ w5).mono ?_; rintro e w6 ⟨rfl, hb6⟩; have hR6 := hR5.below hb6; have hd6 := hd5.below hb6; have hA6 := (OwS.rds hT5).below hb6; have hl6 := hR6.1.lt; clear hR5 hd5 hb6; obtain ⟨⟨r0, r1⟩, rf⟩ := id hR6
   go_wp2_with fail
   refine bodyPost_ret (v := .tuple #[.int .i64 P, .agg #[.int .i64 m, .slice ot (qA7 P m D xs).length ct]]) (by simp [results, Tryz.results67, go_sem, r0, r1]) rfl ⟨P, m, _, qA7 P m D xs, w5.heap.size, rfl, ?_, ?_⟩
   ·exact ((hA6.put (.inl Oo) _ _).put (.inl Oo) _ _).weak Oo
   ·exact qAL (qAL (hd6.out hb1 Oo) Oo _) Oo _

theorem qP0 (B n : Nat) (v : Value) (w : World) (hv : RdB w B n v) (hB : B ≤ w.heap.size) :
  Calls Tryz.prog 53 #[v] w fun e w' => PLDr w w' e := by
 obtain ⟨ov, cv, rfl, hmv, hcv⟩ := id hv
 clear hmv hcv
 go_enter Tryz.func53, Tryz.ntmps53
 go_wp2_with fail
 have hR0 := RB2.mk1 w (.int .i64 0) (.slice none 0 0) 26
 have hb0 : Below w.heap.size w (w.alloc (.cells #[.int .i64 0, .slice none 0 0] 26)) := bZ
 generalize w.alloc (.cells #[.int .i64 0, .slice none 0 0] 26) = w0 at hR0 hb0 ⊢
 have hv0 := hv.keep (w' := w0) (fun k hk => hb0.block k Oo)
 refine (qJz B n _ w0 hv0 (by have := hb0.size; omega)).mono ?_
 rintro e w1 ⟨b, rfl, hs1, hb1⟩
 have hbl := hs1.1
 have hlt := hs1.lt
 have hl0 := hR0.1.lt
 have hR1 := hR0.below hb1
 have hb1 := hb0.trans (hb1.mono hb0.size)
 have hw1 := hb1.size
 clear hR0 hb0 hv0
 go_wp2_with fail
 refine (qLS _ n b w1 hs1).mono ?_
 rintro e w2 ⟨p, rfl, hd2⟩
 have hR2 := hR1.chg hd2.chg (.inl Oo)
 clear hR1
 go_upto_region 3 with fail
 go_cut [16] from 10 to 16 (fun s u => ∃ Q : Bool, s = .bool Q ∧ Hid (Q = true → qBK p = true) ∧ RB2 u w.heap.size (.int .i64 0) (.slice none 0 0) ∧ DW w0.heap.size n b w1 u)
 case first =>
  go_wp2_with fail
  refine (qDx p _).mono ?_; rintro e w3 ⟨rfl, rfl⟩; cases hc : qBK p
  ·go_wp2_with fail
   go_meet
   case rel => exact ⟨false, rfl, dd (fun h => by cases h), hR2, hd2⟩
  ·have HC := dd hc
   go_wp2_with fail
   refine (qAz _ n b _ w2 hd2.src).mono ?_; rintro e w4 ⟨y, rfl, -, -, -, hd4, -⟩; have hR4 := hR2.chg hd4.chg (.inl Oo); have hd4 := hd2.trans hd4
   go_wp2_with fail
   go_meet
   case rel => exact ⟨_, rfl, dd (fun _ => HC.out), hR4, hd4⟩
 case rest =>
  clear hR2 hd2; obtain ⟨Q, rfl, HQ, hR3, hd3⟩ := hcut; obtain ⟨w3, rfl⟩ : ∃ u, u = wc := ⟨_, rfl⟩; have hl3 := hR3.1.lt; cases Q
  ·go_wp2_with fail
   refine (qJa _ n b w3 hd3.src).mono ?_; intro e w4 hsp; obtain ⟨m', ot, q, ct, hi, tt, rfl, hq, hA4, hd4⟩ := hsp.read; clear hsp; have hR4 := hR3.chg hd4.chg (.inl Oo); have hz3 := hd3.size; have hd4 := hd3.trans hd4; obtain ⟨⟨r0, r1⟩, rf⟩ := id hR4
   go_wp2_with fail
   refine bodyPost_ret (v := .tuple #[.int .i64 p, .agg #[.int .i64 m', .slice ot q ct]]) (by simp [results, Tryz.results53, go_sem, r0, r1]) rfl ⟨p, m', _, tt, hi, rfl, ?_, ?_⟩
   ·exact ((hA4.put (.inl Oo) _ _).put (.inl Oo) _ _).weak Oo
   ·exact qAL (qAL (hd4.out hb1 Oo) Oo _) Oo _
  ·obtain ⟨q2, q3, e2, e3, hp2, h22, h33⟩ : ∃ q2 q3 : Int, IntKind.i64.wrap (p * p) = q2 ∧ IntKind.i64.wrap (q2 * p) = q3 ∧ (2 ≤ p ∧ p ≤ 10000) ∧ (2 ≤ q2 ∧ q2 ≤ 10000) ∧ (2 ≤ q3 ∧ q3 ≤ 10000) := by
    rcases qFn (HQ.out rfl) with rfl | rfl | rfl | rfl
    ·exact ⟨4, 8, by decide, by decide, by decide, by decide, by decide⟩
    ·exact ⟨9, 27, by decide, by decide, by decide, by decide, by decide⟩
    ·exact ⟨25, 125, by decide, by decide, by decide, by decide, by decide⟩
    ·exact ⟨49, 343, by decide, by decide, by decide, by decide, by decide⟩
   clear HQ
   go_wp2_with fail
   refine (qCw _ n b _ _ [p, q2, q3] _ w3 hd3.src Oo rfl rfl (by simp) (by simp)).mono ?_; rintro e w4 ⟨m, rfl, hm, hd4, hz4⟩
   have hm2 : 2 ≤ m ∧ m ≤ 10000 := by
    simp at hm
    rcases hm with rfl | rfl | rfl <;> assumption
   have hR4 := hR3.chg hd4.chg (.inl Oo); have hd4 := hd3.trans hd4; clear hm hR3 hd3 e2 e3
   go_wp2_with fail
   refine (qAz _ n b _ w4 hd4.src).mono ?_; rintro e w5 ⟨r, rfl, r0, r1, -, hd5, -⟩; have r1 := r1 Oo; obtain ⟨D, hD⟩ : ∃ D : Nat, 1 + r = (D : Int) := ⟨(1 + r).toNat, Oo⟩; have hR5 := hR4.chg hd5.chg (.inl Oo); have hd5 := hd4.trans hd5; have hz5 := hd5.size; clear hR4 hd4
   go_wp2_with fail
   refine (qJL _ n b m _ D w5 hd5.src hm2.1 hm2.2 Oo Oo Oo).mono ?_; rintro e w6 ⟨vt, tt, rfl, hT6, -, hd6⟩; obtain ⟨ot, ct, rfl⟩ := hT6.shape; have hR6 := hR5.chg hd6.chg (.inl Oo); have hd6 := hd5.trans hd6; have hA6 := OwS.rds hT6; have hl6 := hR6.1.lt; clear hR5 hd5; obtain ⟨⟨r0, r1⟩, rf⟩ := id hR6
   go_wp2_with fail
   refine bodyPost_ret (v := .tuple #[.int .i64 p, .agg #[.int .i64 m, .slice ot tt.length ct]]) (by simp [results, Tryz.results53, go_sem, r0, r1]) rfl ⟨p, m, _, tt, w6.heap.size, rfl, ?_, ?_⟩
   ·exact ((hA6.put (.inl Oo) _ _).put (.inl Oo) _ _).weak Oo
   ·exact qAL (qAL (hd6.out hb1 Oo) Oo _) Oo _

def PLD1 (w w' : World) (e : Ending) : Prop := ∃ p m v tt, e = .returned (.tuple #[.int .i64 p, .agg #[.int .i64 m, v]]) ∧ RdT w' v tt ∧ Below w.heap.size w w'

theorem qPf (B n : Nat) (v : Value) (w : World) (hv : RdB w B n v) (hB : B ≤ w.heap.size) :
  Calls Tryz.prog 30 #[v] w fun e w' => PLD1 w w' e := by
 obtain ⟨ov, cv, rfl, hmv, hcv⟩ := id hv
 clear hmv hcv
 go_enter Tryz.func30, Tryz.ntmps30
 go_wp2_with fail
 have hR0 := RB2.mk1 w (.int .i64 0) (.slice none 0 0) 26
 have hb0 : Below w.heap.size w (w.alloc (.cells #[.int .i64 0, .slice none 0 0] 26)) := bZ
 generalize w.alloc (.cells #[.int .i64 0, .slice none 0 0] 26) = w0 at hR0 hb0 ⊢
 have hv0 := hv.keep (w' := w0) (fun k hk => hb0.block k Oo)
 refine (qP8 B n _ w0 hv0 (by have := hb0.size; omega)).mono ?_
 rintro e w1 ⟨p, m, vt, tt, h1, rfl, hA1, hb1⟩
 obtain ⟨o, c, rfl, -, -⟩ := id hA1.now
 have hR1 := hR0.below hb1
 have hl0 := hR0.1.lt
 have hz1 := hb1.size
 have hb1 := hb0.trans (hb1.mono hb0.size)
 clear hR0 hb0 hv0
 go_wp2_with fail
 have hX2 := RB2.mk1 w1 (.int .i64 m) (.slice o tt.length c) 26
 have hba : Below w1.heap.size w1 (w1.alloc (.cells #[.int .i64 m, .slice o tt.length c] 26)) := bZ
 have hR2 := hR1.below hba
 have hA2 := hA1.below hba
 have hb2 : Below w.heap.size w (w1.alloc (.cells #[.int .i64 m, .slice o tt.length c] 26)) := (bY1 hb1)
 have hlx := hX2.1.lt
 clear hR1 hA1 hba hb1
 generalize w1.alloc (.cells #[.int .i64 m, .slice o tt.length c] 26) = w2 at hX2 hR2 hA2 hb2 hlx ⊢
 obtain ⟨⟨x0, x1⟩, xf⟩ := id hX2
 obtain ⟨⟨r0, r1⟩, rf⟩ := id hR2
 have n1 : w1.heap.size ≠ w.heap.size := Oo
 go_wp2_with fail
 have hd0 : Below w2.heap.size w2 w2.drew := (Below.refl _ _).drew
 have hsd0 := hd0.size
 refine qAv (S := fun w' => w'.cell? ⟨w1.heap.size, 0, none⟩ = some (.int .i64 m) ∧ w'.cell? ⟨w1.heap.size, 1, none⟩ = some (.slice o tt.length c)) [3] kr ?_
 refine wKq (by go_keep) fun hHeld => ?_
 refine' tJ 0 hHeld ?_
 refine' tJ 1 hHeld ?_
 refine qA1 (i := 2) rfl kr (fun K hK => ?_)
 go_simp
 (try go_wp2_with fail)
 refine hK.out _ _ (fun _ => hHeld) ?_
 clear hK K
 try simp only [Act.put, sL]
 refine qA1 (i := 3) rfl kr (fun K hK => ?_)
 go_simp
 (try go_wp2_with fail)
 refine hK.out _ _ (nD ·) ?_
 clear hK K
 try simp only [Act.put, sL]
 refine qAT kr ?_ _
 go_wp2_with fail
 refine bodyPost_ret (v := .tuple #[.int .i64 p, .agg #[.int .i64 m, .slice o tt.length c]]) (by simp [results, Tryz.results30, go_sem, r0, r1]) rfl ⟨p, m, _, tt, rfl, ?_, ?_⟩
 ·exact (((hA2.put (.inl Oo) _ _).put (.inl Oo) _ _).below ((Below.refl _ _).drew)).now
 ·exact Below.drew (qAL (qAL hb2 Oo _) Oo _)
theorem qOK (B n : Nat) (v : Value) (w : World) (hv : RdB w B n v) (hB : B ≤ w.heap.size) :
  Calls Tryz.prog 20 #[v] w fun e w' => PLD1 w w' e := by
 obtain ⟨ov, cv, rfl, hmv, hcv⟩ := id hv
 clear hmv hcv
 go_enter Tryz.func20, Tryz.ntmps20
 go_wp2_with fail
 have hR0 := RB2.mk1 w (.int .i64 0) (.slice none 0 0) 26
 have hb0 : Below w.heap.size w (w.alloc (.cells #[.int .i64 0, .slice none 0 0] 26)) := bZ
 generalize w.alloc (.cells #[.int .i64 0, .slice none 0 0] 26) = w0 at hR0 hb0 ⊢
 have hv0 := hv.keep (w' := w0) (fun k hk => hb0.block k Oo)
 refine (qP0 B n _ w0 hv0 (by have := hb0.size; omega)).mono ?_
 rintro e w1 ⟨p, m, vt, tt, h1, rfl, hA1, hb1⟩
 obtain ⟨o, c, rfl, -, -⟩ := id hA1.now
 have hR1 := hR0.below hb1
 have hl0 := hR0.1.lt
 have hz1 := hb1.size
 have hb1 := hb0.trans (hb1.mono hb0.size)
 clear hR0 hb0 hv0
 go_wp2_with fail
 have hX2 := RB2.mk1 w1 (.int .i64 m) (.slice o tt.length c) 26
 have hba : Below w1.heap.size w1 (w1.alloc (.cells #[.int .i64 m, .slice o tt.length c] 26)) := bZ
 have hR2 := hR1.below hba
 have hA2 := hA1.below hba
 have hb2 : Below w.heap.size w (w1.alloc (.cells #[.int .i64 m, .slice o tt.length c] 26)) := (bY1 hb1)
 have hlx := hX2.1.lt
 clear hR1 hA1 hba hb1
 generalize w1.alloc (.cells #[.int .i64 m, .slice o tt.length c] 26) = w2 at hX2 hR2 hA2 hb2 hlx ⊢
 obtain ⟨⟨x0, x1⟩, xf⟩ := id hX2
 obtain ⟨⟨r0, r1⟩, rf⟩ := id hR2
 have n1 : w1.heap.size ≠ w.heap.size := Oo
 go_wp2_with fail
 have hd0 : Below w2.heap.size w2 w2.drew := (Below.refl _ _).drew
 have hsd0 := hd0.size
 refine qAv (S := fun w' => w'.cell? ⟨w1.heap.size, 0, none⟩ = some (.int .i64 m) ∧ w'.cell? ⟨w1.heap.size, 1, none⟩ = some (.slice o tt.length c)) [3] kr ?_
 refine wKq (by go_keep) fun hHeld => ?_
 refine' tJ 0 hHeld ?_
 refine' tJ 1 hHeld ?_
 refine qA1 (i := 2) rfl kr (fun K hK => ?_)
 go_simp
 (try go_wp2_with fail)
 refine hK.out _ _ (fun _ => hHeld) ?_
 clear hK K
 try simp only [Act.put, sL]
 refine qA1 (i := 3) rfl kr (fun K hK => ?_)
 go_simp
 (try go_wp2_with fail)
 refine hK.out _ _ (nD ·) ?_
 clear hK K
 try simp only [Act.put, sL]
 refine qAT kr ?_ _
 go_wp2_with fail
 refine bodyPost_ret (v := .tuple #[.int .i64 p, .agg #[.int .i64 m, .slice o tt.length c]]) (by simp [results, Tryz.results20, go_sem, r0, r1]) rfl ⟨p, m, _, tt, rfl, ?_, ?_⟩
 ·exact (((hA2.put (.inl Oo) _ _).put (.inl Oo) _ _).below ((Below.refl _ _).drew)).now
 ·exact Below.drew (qAL (qAL hb2 Oo _) Oo _)
end
section
open Go.ChangeShapes Go.WideShapes Go.ChangeAt Go.Joins

theorem Tryz.own : ownKnob Tryz.prog.godebug = none := kr
theorem Tryz.laidOut : laidOutB Tryz.prog = true := kr
theorem Tryz.cells8 : Tryz.prog.cellsOf 5 = 1 := kr

theorem qJb {H : Type} {enc : TypeId × Value → H} {P : Program} {W W' : World} (hl : laidOutB P = true) :
  ∀ {ts : List TypeId} {vs : List Value} {ds : List (DataW H)} {ps : List MemPlace}, (ts.all fun t => P.readableRec t && decide (t < P.types.size)) = true →
    DataW.TrodAll enc P W 0 (fun _ => true) true ts vs ds ps → Below W.heap.size W W' → (∀ x ∈ ps, x.block < W.heap.size) → DataW.TrodAll enc P W' 0 (fun b => decide (b < W.heap.size)) true ts vs ds ps
 | [], [], [], _, _, h, _, _ => h
 | t :: ts, _ :: _, _ :: _, _, hT, ⟨p, q, h1, h2, e⟩, hb, hs => by
   simp only [List.all_cons, Bool.and_eq_true, decide_eq_true_eq] at hT; exact ⟨p, q, Below.trod hl hT.1.1 hT.1.2 h1 hb (fun x hx => hs x (by rw [e]; exact List.mem_append_left _ hx)), qJb hl hT.2 h2 hb (fun x hx => hs x (by rw [e]; exact List.mem_append_right _ hx)), e⟩

theorem qNM {H : Type} {enc : TypeId × Value → H} {W : World} {sp : Nat → Bool} {b0 : Nat} {v : Value} {d : DataW H} {ps : List MemPlace}
  (hval : Value.okWide Tryz.prog W .any b0 22 v) (h : DataW.Trod enc Tryz.prog W 0 sp true 22 v d ps) : ∃ n, RdB W W.heap.size n v := by
 obtain ⟨a1, len, cap, rfl⟩ := okWide_slice Tryz.underlying22 hval
 obtain ⟨fuel, hf⟩ := h
 rcases open_ints Tryz.underlying22 Tryz.underlying5 Tryz.cells8 hf with ⟨hcs, hx⟩ | ⟨a, len', cap', zs, hcs, _, hl, hm, hz, hx, hcell, hwz⟩
 ·simp [Value.cells] at hcs; obtain ⟨rfl, rfl, rfl⟩ := hcs; exact ⟨0, none, 0, rfl, ⟨Nat.zero_le _, Nat.le_refl _, fun _ => rfl⟩, fun k hk => Oo⟩
 ·simp [Value.cells] at hcs; obtain ⟨rfl, rfl, rfl⟩ := hcs
  have hlz : len ≤ zs.length := by rw [hz]; split <;> omega
  refine ⟨len, some a, cap, rfl, ⟨Oo, hl, fun h => by cases h⟩, fun k hk => ?_⟩; obtain ⟨b, off, rfl, hc⟩ := ints_at hcell Oo; have hck := hc k Oo
  have hm : zs.getD k 0 ∈ zs := by
   rw [List.getD, List.getElem?_eq_getElem (show k < zs.length by omega)]; exact List.getElem_mem _
  have := hwz _ hm; simp [Lit.wf, IntKind.min, IntKind.max, IntKind.bits, IntKind.signed] at this; rw [← List.getD_eq_getElem?_getD] at this; exact ⟨b, off, _, World.block_lt_of_cell? _ _ hck, rfl, hck, Oo, Oo⟩
end
end Go.Proofs.YtfpphfjlpgefaaaGreat
