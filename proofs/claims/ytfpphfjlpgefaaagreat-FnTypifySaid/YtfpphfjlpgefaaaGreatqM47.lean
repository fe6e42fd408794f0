/- Lemmas. -/
import Derived.Test.YtfpphfjlpgefaaaGreatqM43
import Derived.Test.YtfpphfjlpgefaaaGreatqM44
import Derived.Test.YtfpphfjlpgefaaaGreatqWeiJ
import Derived.Test.YtfpphfjlpgefaaaGreatqM34
import Derived.Test.YtfpphfjlpgefaaaGreatqM13
import Derived.Test.YtfpphfjlpgefaaaGreatqM14
import Derived.Test.YtfpphfjlpgefaaaGreatqG2
set_option maxHeartbeats 2000000
set_option maxRecDepth 100000
set_option linter.unusedSimpArgs false
set_option linter.unusedVariables false
namespace Go.Proofs.YtfpphfjlpgefaaaGreat
open Go.RowKit
section

def TDr (m : Int) (N : Nat) (w w' : World) (B n b : Nat) (e : Ending) : Prop := ∃ v t, e = .returned v ∧ OwS w' w.heap.size v t ∧ PlaT m N t ∧ DW B n b w w'
theorem TEnd.dr {m : Int} {N B n b : Nat} {w w1 w2 : World} {e : Ending} (hd : DW B n b w w1) (h : TEnd m N w1 w2 e) : TDr m N w w2 B n b e := by
 obtain ⟨v, t, he, ho, hp, hb⟩ := h
 exact ⟨v, t, he, ho.mono hd.size, hp, hd.below hb⟩

theorem qOP (B n b : Nat) (m : Int) (D : Nat) (w : World) (hs : Src w B n b) (hm : 2 ≤ m) (hm' : m ≤ 10000) (hD : 1 ≤ D) (hD' : D ≤ 100) :
  Calls Tryz.prog 161 #[.pointer (some ⟨b, 0, none⟩), .int .i64 m, .int .i64 D] w fun e w' => TDr m (D + 1) w w' B n b e := by
 go_enter Tryz.func161, Tryz.ntmps161
 go_wp2_with fail
 refine (qAz B n b 6 w hs).mono ?_
 rintro e w1 ⟨r, rfl, r0, r1, r2, hd1, hz1⟩
 have r1 := r1 Oo
 clear r2 hz1
 by_cases c0 : r = 0
 ·subst c0
  go_wp2_with fail
  refine (qHM m D 0 w1 hD hD' hm Oo Oo).mono ?_; rintro e w2 ⟨v, t, rfl, ho, hp, hb⟩; go_wp2; go_ret; exact ⟨_, t, rfl, ho.mono hd1.size, hp, hd1.below hb⟩
 by_cases c1 : r = 1
 ·subst c1
  go_wp2_with fail
  refine (qAz B n b m w1 hd1.src).mono ?_; rintro e w2 ⟨x, rfl, x0, x1, x2, hd2, hz2⟩; have x1 := x1 Oo; have hd2 := hd1.trans hd2
  go_wp2_with fail
  refine (qHM m D x w2 hD hD' hm x0 x1).mono ?_; rintro e w3 ⟨v, t, rfl, ho, hp, hb⟩; go_wp2; go_ret; exact ⟨_, t, rfl, ho.mono hd2.size, hp, hd2.below hb⟩
 by_cases c2 : r = 2
 ·subst c2
  go_wp2_with fail
  refine (qAz B n b m w1 hd1.src).mono ?_; rintro e w2 ⟨x, rfl, x0, x1, x2, hd2, hz2⟩; have x1 := x1 Oo; have hd2 := hd1.trans hd2
  go_wp2_with fail
  refine (qHM m D x w2 hD hD' hm x0 x1).mono ?_; rintro e w3 ⟨v, t, rfl, ho, hp, hb⟩; go_wp2; go_ret; exact ⟨_, t, rfl, ho.mono hd2.size, hp, hd2.below hb⟩
 by_cases c3 : r = 3
 ·subst c3
  go_wp2_with fail
  refine (qAz B n b m w1 hd1.src).mono ?_; rintro e w2 ⟨x, rfl, x0, x1, x2, hd2, hz2⟩; have x1 := x1 Oo; have hd2 := hd1.trans hd2
  go_wp2_with fail
  refine (qNV m D x w2 hD hD' hm hm' x0 x1).mono ?_; rintro e w3 ⟨v, t, rfl, ho, hp, hb⟩; go_wp2; go_ret; exact ⟨_, t, rfl, ho.mono hd2.size, hp, hd2.below hb⟩
 by_cases c5 : r = 4 ∧ m % 2 = 1
 ·obtain ⟨rfl, hodd⟩ := c5; have hod2 : (m % 2 == 1) = true := by simpa using hodd
  have ew : IntKind.i64.wrap (1 : Int) = 1 := IntWalk.i64_in _ Oo
  go_wp2_with fail
  refine (qAz B n b m w1 hd1.src).mono ?_; rintro e w2 ⟨x, rfl, x0, x1, x2, hd2, hz2⟩; have x1 := x1 Oo; have hd2 := hd1.trans hd2
  go_wp2_with fail
  refine (qAz B n b m w2 hd2.src).mono ?_; rintro e w3 ⟨y, rfl, y0, y1, y2, hd3, hz3⟩; have y1 := y1 Oo; have hd3 := hd2.trans hd3
  go_wp2_with fail
  refine (qPc m D x y w3 hD hD' hm hm' x0 x1 y0 y1).mono ?_; rintro e w4 ⟨v, t, rfl, ho, hp, hb⟩; go_wp2; go_ret; exact ⟨_, t, rfl, ho.mono hd3.size, hp, hd3.below hb⟩
 have c0' : (r == 0) = false := by simpa using c0
 have c1' : (r == 1) = false := by simpa using c1
 have c2' : (r == 2) = false := by simpa using c2
 have c3' : (r == 3) = false := by simpa using c3
 by_cases c4 : r = 4
 ·have hodd : ¬ m % 2 = 1 := fun h => c5 ⟨c4, h⟩
  have hod2 : (m % 2 == 1) = false := by simpa using hodd
  subst c4; clear c5
  go_wp2_with fail
  refine (qLL B n b m w1 hd1.src hm).mono ?_; rintro e w2 ⟨v2, xs, rfl, hO2, hl2, hx2, hd2⟩; have HX := dd hx2; obtain ⟨o2, cc2, rfl⟩ := hO2.shapeN (n := 5) hl2; have HL := dd hl2; clear hl2 hx2; have hd2 := hd1.trans hd2
  go_wp2_with fail
  refine (qKw m D (D + 1) _ xs w2 Oo hO2.rd HL.out Oo Oo hm hm' HX.out).mono ?_; rintro e w3 ⟨v, rfl, ho, hb⟩; go_wp2; go_ret; exact ⟨_, _, rfl, ho.mono hd2.size, qAF Oo _ _ _, hd2.below hb⟩
 ·have c4' : (r == 4) = false := by simpa using c4
  clear c5
  go_wp2_with fail
  refine (qLL B n b m w1 hd1.src hm).mono ?_; rintro e w2 ⟨v2, xs, rfl, hO2, hl2, hx2, hd2⟩; have HX := dd hx2; obtain ⟨o2, cc2, rfl⟩ := hO2.shapeN (n := 5) hl2; have HL := dd hl2; clear hl2 hx2; have hd2 := hd1.trans hd2
  go_wp2_with fail
  refine (qKw m D (D + 1) _ xs w2 Oo hO2.rd HL.out Oo Oo hm hm' HX.out).mono ?_; rintro e w3 ⟨v, rfl, ho, hb⟩; go_wp2; go_ret; exact ⟨_, _, rfl, ho.mono hd2.size, qAF Oo _ _ _, hd2.below hb⟩

def LwD (m : Int) (N : Nat) (w w' : World) (B n b : Nat) (e : Ending) : Prop := ∃ v t, e = .returned (.agg #[.int .i64 m, v]) ∧ OwS w' w.heap.size v t ∧ PlaT m N t ∧ DW B n b w w'
theorem qOf (B n b : Nat) (m : Int) (D : Nat) (w : World) (hs : Src w B n b) (hm : 2 ≤ m) (hm' : m ≤ 10000) (hD : 1 ≤ D) (hD' : D ≤ 100) :
  Calls Tryz.prog 104 #[.pointer (some ⟨b, 0, none⟩), .int .i64 m, .int .i64 D] w fun e w' => LwD m (D + 1) w w' B n b e := by
 have hlt := hs.lt
 go_enter Tryz.func104, Tryz.ntmps104
 go_wp2_with fail
 have hR0 := RB2.mk1 w (.int .i64 0) (.slice none 0 0) 26
 have hd0 : DW B n b w (w.alloc (.cells #[.int .i64 0, .slice none 0 0] 26)) := (DW.refl hs).alloc _
 have hz0 := hd0.size
 generalize w.alloc (.cells #[.int .i64 0, .slice none 0 0] 26) = w0 at hR0 hd0 hz0 ⊢
 have hw0 := hR0.1.lt
 refine (qOP B n b m D w0 hd0.src hm hm' hD hD').mono ?_
 rintro e w1 ⟨v, t, rfl, hO1, hp, hd1⟩
 obtain ⟨o, c, rfl⟩ := hO1.shapeN (n := D + 1) hp.1
 have HP := dd hp
 have hR1 := hR0.dw hd1 hlt
 have hd1 := hd0.trans hd1
 clear hp hd0 hR0
 go_wp2_with fail
 refine (qAz B n b 3 w1 hd1.src).mono ?_
 rintro e w2 ⟨x, rfl, x0, x1, x2, hdx, hz2⟩
 have hR2 := hR1.dw hdx hlt
 have hO2 := hO1.dw hdx Oo
 have hd2 := hd1.trans hdx
 clear hz2 x1 x2 hR1 hO1 hd1 hdx
 by_cases hx : 0 < x
 ·go_wp2_with fail
  refine (qPA B n b m D w2 hd2.src hm hD hD').mono ?_; rintro e w3 ⟨vc, xs, rfl, hC, hl, hxr, hdc⟩; obtain ⟨oc, cc, rfl⟩ := hC.shapeN (n := D + 1) hl; have HL := dd hl; have HX := dd hxr; have hR3 := hR2.dw hdc hlt; have hO3 := hO2.dw hdc Oo; have hd3 := hd2.trans hdc; clear hl hxr hR2 hO2 hd2 hdc
  go_wp2_with fail
  refine (qLU m (D + 1) _ _ t xs w3 hO3.rd hC.rd HL.out Oo Oo hm hm' HP.out HX.out).mono ?_; rintro e w4 ⟨v4, rfl, ho4, hb4⟩; obtain ⟨o4, c4, rfl⟩ := ho4.shapeN (n := D + 1) (qGQ _ _ _ _); have hR4 := hR3.below hb4; have hd4 := hd3.below hb4; have hz3 := hd3.size
  go_wp2_with fail
  refine (qGP m _ (D + 1) _ w4).mono ?_; rintro e w7 ⟨rfl, hb7⟩; have hR7 := hR4.below hb7; have hO7 := ho4.below hb7; have hd7 := hd4.below hb7; have hw3 : w.heap.size < w3.heap.size := hR3.1.lt; obtain ⟨⟨r0, r1⟩, rf⟩ := id hR7
  go_wp2_with fail
  refine bodyPost_ret (v := .agg #[.int .i64 m, .slice o4 (D + 1) c4]) (by simp [results, Tryz.results104, go_sem, r0, r1]) rfl ⟨_, _, rfl, ?_, (show PlaT m (D + 1) (qB7 m (D + 1) t xs) from qAF Oo _ _ _), ?_⟩
  ·exact ((hO7.low Oo _).low Oo _).mono Oo
  ·exact (hd7.put (nl _) _ _).put (nl _) _ _
 ·go_wp2_with fail
  refine (qGP m _ (D + 1) _ w2).mono ?_; rintro e w7 ⟨rfl, hb7⟩; have hR7 := hR2.below hb7; have hO7 := hO2.below hb7; have hd7 := hd2.below hb7; obtain ⟨⟨r0, r1⟩, rf⟩ := id hR7
  go_wp2_with fail
  refine bodyPost_ret (v := .agg #[.int .i64 m, .slice o (D + 1) c]) (by simp [results, Tryz.results104, go_sem, r0, r1]) rfl ⟨_, _, rfl, ?_, HP.out, ?_⟩
  ·exact ((hO7.low Oo _).low Oo _).mono Oo
  ·exact (hd7.put (nl _) _ _).put (nl _) _ _
theorem qJL (B n b : Nat) (m d : Int) (D : Nat) (w : World) (hs : Src w B n b) (hm : 2 ≤ m) (hm' : m ≤ 10000) (hD : 1 ≤ D) (hD' : D ≤ 100) (hd : d = D) :
  Calls Tryz.prog 104 #[.pointer (some ⟨b, 0, none⟩), .int .i64 m, .int .i64 d] w fun e w' => LwD m (D + 1) w w' B n b e := by subst hd; exact qOf B n b m D w hs hm hm' hD hD'

theorem qQL (B n b : Nat) (w : World) (hs : Src w B n b) :
  Calls Tryz.prog 73 #[.pointer (some ⟨b, 0, none⟩)] w fun e w' => ∃ m N, (2 ≤ m ∧ m ≤ 10000) ∧ (2 ≤ N ∧ N ≤ 11) ∧ LwD m N w w' B n b e := by
 have hlt := hs.lt
 go_enter Tryz.func73, Tryz.ntmps73
 go_wp2_with fail
 have hR0 := RB2.mk1 w (.int .i64 0) (.slice none 0 0) 26
 have hd0 : DW B n b w (w.alloc (.cells #[.int .i64 0, .slice none 0 0] 26)) := (DW.refl hs).alloc _
 have hz0 := hd0.size
 generalize w.alloc (.cells #[.int .i64 0, .slice none 0 0] 26) = w0 at hR0 hd0 hz0 ⊢
 refine (qN4 B n b w0 hd0.src).mono ?_
 rintro e w1 ⟨m, rfl, hm, hd1⟩
 have hR1 := hR0.dw hd1 hlt
 have hd1 := hd0.trans hd1
 go_wp2_with fail
 refine (qAz B n b _ w1 hd1.src).mono ?_
 rintro e w2 ⟨x, rfl, x0, x1, x2, hd2, hz2⟩
 have x1 := x1 Oo
 have hR2 := hR1.dw hd2 hlt
 have hd2 := hd1.trans hd2
 clear hz2 x2
 go_wp2_with fail
 refine (qCw B n b _ _ [1, 2, 3, 4, 6, 9, x] _ w2 hd2.src rfl rfl rfl (by simp) (by simp)).mono ?_
 rintro e w5 ⟨t, rfl, ht, hd5, hz5⟩
 have ht : 0 ≤ t ∧ t ≤ 9 := by simp at ht; omega
 obtain ⟨t0, t9⟩ := ht
 have hR5 := hR2.dw hd5 hlt
 have hd5 := hd2.trans hd5
 clear hz5
 go_wp2_with fail
 refine (qJL B n b m (1 + t) (1 + t).toNat w5 hd5.src hm.1 hm.2 Oo Oo Oo).mono ?_
 rintro e w6 ⟨v, xss, rfl, hO6, hp6, hd6⟩
 obtain ⟨o, c, rfl⟩ := hO6.shape
 have hR6 := hR5.dw hd6 hlt
 have hz6 := hd5.size
 have hd6 := hd5.trans hd6
 have HP := dd hp6
 clear hp6
 have hlw := hR0.1.lt
 have hz15 : w.heap.size < w5.heap.size := hR5.1.lt
 obtain ⟨⟨r0, r1⟩, rf⟩ := id hR6
 go_wp2_with fail
 refine bodyPost_ret (v := .agg #[.int .i64 m, .slice o xss.length c]) (by simp [results, Tryz.results73, go_sem, r0, r1]) rfl ⟨m, (1 + t).toNat + 1, hm, ⟨Oo, Oo⟩, _, xss, rfl, ?_, HP.out, ?_⟩
 ·exact ((hO6.low Oo _).low Oo _).mono Oo
 ·exact (hd6.put (nl _) _ _).put (nl _) _ _
end
section

theorem PlaT.stp {m : Int} {N : Nat} {t : Tb} (h : PlaT m N t) : Stp N t := ⟨h.1, fun k row hk => by
 have hk' := List.getElem?_eq_some_iff.1 hk
 rw [← hk'.2, (h.2 k hk'.1).1, h.1]⟩
theorem Stp.put {N i : Nat} {t : Tb} (h : Stp N t) {row row' : Li} (hi : t[i]? = some row) (hl : row'.length = row.length) : Stp N (t.set i row') := ⟨by rw [List.length_set]; exact h.1, fun k r hk => by
 rw [List.getElem?_set] at hk
 by_cases e : i = k
 ·subst e; rw [if_pos rfl, if_pos (List.getElem?_eq_some_iff.1 hi).1] at hk; cases hk
  rw [hl]; exact h.2 i row hi
 ·rw [if_neg e] at hk; exact h.2 k r hk⟩
def SpR (w w' : World) (B n b : Nat) (e : Ending) : Prop := ∃ (m : Int) (v : Value) (N g c lo hi k : Nat) (t : Tb), e = .returned (.agg #[.int .i64 m, v]) ∧ OwSR lo hi w' (.slice (some ⟨g, 0, none⟩) N c) t ∧ (w.heap.size ≤ lo ∧ lo ≤ g ∧ hi ≤ w'.heap.size) ∧ Stp N t ∧ (2 ≤ N ∧ N ≤ 11 ∧ N ≤ c) ∧ (v = .slice none 0 0 ∨ (k ≤ 1 ∧ v = .slice (some ⟨g, k, none⟩) (N - k) (c - k))) ∧ DW B n b w w'

theorem qJa (B n b : Nat) (w : World) (hs : Src w B n b) :
  Calls Tryz.prog 36 #[.pointer (some ⟨b, 0, none⟩)] w fun e w' => SpR w w' B n b e := by
 have hlt := hs.lt
 go_enter Tryz.func36, Tryz.ntmps36
 go_wp2_with fail
 have hR0 := RB2.mk1 w (.int .i64 0) (.slice none 0 0) 26
 have hq0 : DW B n b w (w.alloc (.cells #[.int .i64 0, .slice none 0 0] 26)) := (DW.refl hs).alloc _
 have hz0 := hq0.size
 generalize w.alloc (.cells #[.int .i64 0, .slice none 0 0] 26) = w0 at hR0 hq0 hz0 ⊢
 refine (qQL B n b w0 hq0.src).mono ?_
 rintro e w1 ⟨m, N, hm, hN, v, xss, rfl, hO1, hp, hd1⟩
 obtain ⟨o, c, rfl⟩ := hO1.shapeN (n := N) hp.1
 obtain ⟨g, rfl, hg0, hg1⟩ := hO1.row Oo
 have hcl : N ≤ c := by
  obtain ⟨_, _, heq, ⟨_, h, _⟩, _⟩ := hO1.rd; have h3 := (Value.slice.inj heq).2.2; have h2 := (Value.slice.inj heq).2.1; omega
 have HS := dd hp.stp
 clear hp
 have hl0 := hR0.1.lt
 have hR1 := hR0.dw hd1 hlt
 have hz1 := hd1.size
 have hq1 := hq0.trans hd1
 obtain ⟨us, hT1⟩ := hO1.toR.named
 clear hR0 hq0 hd1 hO1
 go_wp2_with fail
 have hX2 := RB2.mk1 w1 (.int .i64 m) (.slice (some ⟨g, 0, none⟩) N c) 26
 have hR2 := hR1.below (w' := w1.alloc (.cells #[.int .i64 m, .slice (some ⟨g, 0, none⟩) N c] 26)) bZ (nl _)
 have hq2 := hq1.alloc (.cells #[.int .i64 m, .slice (some ⟨g, 0, none⟩) N c] 26)
 have hT2 := hT1.stay (u' := w1.alloc (.cells #[.int .i64 m, .slice (some ⟨g, 0, none⟩) N c] 26)) (fun j _ hj => Below.heap_alloc _ _ j Oo)
 have hz2 : w1.heap.size ≤ (w1.alloc (.cells #[.int .i64 m, .slice (some ⟨g, 0, none⟩) N c] 26)).heap.size := by simp
 clear hT1 hR1 hq1
 generalize w1.alloc (.cells #[.int .i64 m, .slice (some ⟨g, 0, none⟩) N c] 26) = w2 at hX2 hR2 hq2 hT2 hz2 ⊢
 refine (qAz B n b _ _ hq2.src).mono ?_
 rintro e w3 ⟨r, rfl, y0, y1, y2, hd3, hz3⟩
 have y1 := y1 Oo
 have hR3 := hR2.dw hd3 hlt
 have hX3 := hX2.dw hd3 Oo
 have hT3 := hT2.dwS hd3 Oo hz2
 have hq3 := hq2.trans hd3
 have hz3' := hd3.size
 clear hR2 hX2 hT2 hq2 y2 hz3 hd3
 have n1 : w.heap.size ≠ w1.heap.size := Oo
 have n2 : w1.heap.size ≠ w.heap.size := Oo
 obtain ⟨hN1, hN2⟩ := hN
 obtain ⟨r, rfl⟩ : ∃ q : Nat, r = (q : Int) := ⟨r.toNat, Oo⟩
 have hrN : r < N := Oo
 obtain ⟨row, hrow⟩ : ∃ row, xss[r]? = some row := ⟨xss[r]'(by have := HS.out.1; omega), by simp [show r < xss.length by have := HS.out.1; omega]⟩
 have HRow := dd hrow
 have HRL := dd (show row.length = N - r from HS.out.2 r row hrow)
 obtain ⟨o2, c2, hu2, cx2, how2, hbl2, hset2⟩ := hT3.at hrow
 rw [HRL.out] at hu2 cx2
 clear how2 hbl2 hset2 hrow
 obtain ⟨⟨x0, x1⟩, xf⟩ := id hX3
 go_wp2_with fail
 refine (qAz B n b _ _ hq3.src).mono ?_
 rintro e w4 ⟨t, rfl, t0, t1, t2, hd4, hz4⟩
 have hR4 := hR3.dw hd4 hlt
 have hX4 := hX3.dw hd4 Oo
 have hT4 := hT3.dwS hd4 Oo Oo
 have hq4 := hq3.trans hd4
 have hz4' := hd4.size
 clear hR3 hX3 hT3 hq3 t1 t2 hz4 hd4 cx2 x0 x1 xf
 have hl3 := hX4.1.lt
 have hlr3 := hR4.1.lt
 by_cases h0 : t = 0
 ·subst h0; have e1 : IntKind.i64.wrap (m + 1) = m + 1 := IntWalk.i64_in _ Oo; obtain ⟨⟨x0, x1⟩, xf⟩ := id hX4
  go_wp2_with fail
  have hd0 : Below w4.heap.size w4 w4.drew := (Below.refl _ _).drew; have hsd0 := hd0.size; refine qAv (S := fun w' => w'.cell? ⟨w1.heap.size, 0, none⟩ = some (.int .i64 m)) [11] kr ?_; refine wKq (by go_keep) fun hHeld => ?_
  refine' tJ 0 hHeld ?_; refine' tJ 1 hHeld ?_; refine' tJ 2 hHeld ?_; refine' tJ 5 hHeld ?_; refine' tJ 6 hHeld ?_; refine' tJ 3 hHeld ?_; refine' tJ 7 hHeld ?_; refine' tJ 8 hHeld ?_; refine qA1 (i := 4) rfl kr (fun K hK => ?_); go_simp
  go_at_call 38
  refine (qAz B n b _ _ hq4.drew.src).mono ?_; rintro e w5 ⟨j, rfl, j0, j1, j2, hd5, hz5⟩; have j1 := j1 Oo; have hR5 := (show RB2 w4.drew _ _ _ from hR4).dw hd5 hlt; have hX5 := (show RB2 w4.drew _ _ _ from hX4).dw hd5 Oo; have hT4d : OwSU us w0.heap.size w1.heap.size w4.drew (.slice (some ⟨g, 0, none⟩) N c) xss := hT4.stay (fun j _ _ => rfl); have hzd : w4.drew.heap.size = w4.heap.size := rfl; have hT5 := hT4d.dwS hd5 Oo Oo; have hq5 := hq4.drew.trans hd5; have hs5 : w4.heap.size ≤ w5.heap.size := by have := hd5.size; omega
  clear j2 hz5 hT4d hzd hd5 hHeld x0 x1 xf; obtain ⟨j, rfl⟩ : ∃ q : Nat, j = (q : Int) := ⟨j.toNat, Oo⟩; obtain ⟨⟨x0, x1⟩, xf⟩ := id hX5
  go_wp2_with fail
  refine oKq hK (by go_keep) fun hHeld => ?_
  clear hK K
  try simp only [Act.put, sL]
  refine qA1 (i := 9) rfl kr (fun K hK => ?_); go_simp
  go_at_call 38
  refine (qAz B n b _ _ hq5.src).mono ?_; rintro e w6 ⟨y, rfl, q0, q1, q2, hd6, hz6⟩; have hR6 := hR5.dw hd6 hlt; have hX6 := hX5.dw hd6 Oo; have hT6 := hT5.dwS hd6 Oo Oo; have hq6 := hq5.trans hd6; have hs6 := hd6.size; clear q1 q2 hz6 hR5 hX5 hT5 hq5 hd6 x0 x1 xf hHeld; obtain ⟨o3, c3, hu3, cx3, how3, hbl3, hset3⟩ := hT6.at HRow.out; rw [HRL.out] at hu3 cx3 how3 hbl3 hset3; obtain ⟨rfl, rfl⟩ : o2 = o3 ∧ c2 = c3 := by rw [hu2] at hu3; simpa using hu3
  obtain ⟨gr, rfl, hgr1, hgr2⟩ := how3.row Oo; have hgr3 := hbl3 gr rfl; have hjl : j < row.length := by have := HRL.out; omega
  have hc0 := how3.cell (k := j) (x := row[j]) (by simp [hjl]); have hf0 := how3.fz j; have HS2 := dd hset3; have Hn := dd how3; clear hset3 hbl3 hu3 hu2 how3 cx3; have i0 : (0 : Int) ≤ (j : Int) := Oo; have i1 : (j : Int) < ((N - r : Nat) : Int) := Oo; have m1 : gr ≠ w1.heap.size := Oo; have m2 : w1.heap.size ≠ gr := Oo; have m3 : gr ≠ w.heap.size := Oo; have m4 : w.heap.size ≠ gr := Oo; obtain ⟨⟨z0, z1⟩, zf⟩ := id hX6; obtain ⟨⟨r0, r1⟩, rf⟩ := id hR6
  go_wp2_with fail
  refine oKq hK (by go_keep) fun hHeld => ?_
  clear hK K
  try simp only [Act.put, sL]
  refine' tJ 10 hHeld ?_; refine qA1 (i := 11) rfl kr (fun K hK => ?_); go_simp
  (try go_wp2_with fail)
  refine hK.out _ _ (nD ·) ?_; clear hK K
  try simp only [Act.put, sL]
  refine qAT kr ?_ _
  go_wp2_with fail
  have hT7 := HS2.out _ _ (by rw [List.length_set, HRL.out]) (qAw (World.grownBy.refl w6 (some gr)) j (.int .i64 y)) (Hn.out.put j y); refine bodyPost_ret (v := .agg #[.int .i64 m, .slice (some ⟨g, 0, none⟩) N c]) (by simp [results, Tryz.results36, go_sem, r0, r1]) rfl ⟨m, _, N, g, c, _, w1.heap.size, 0, xss.set r (row.set j y), rfl, ((hT7.putS (.inl Oo) _ _).putS (.inl Oo) _ _).r, ⟨Oo, Oo, by simp; omega⟩, HS.out.put HRow.out (by rw [List.length_set]), ⟨hN1, hN2, hcl⟩, .inr ⟨Oo, rfl⟩, ((hq6.put Oo _ _).put (nl _) _ _).put (nl _) _ _⟩
 obtain ⟨⟨x0, x1⟩, xf⟩ := id hX4
 obtain ⟨⟨r0, r1⟩, rf⟩ := id hR4
 by_cases h1 : t = 1
 ·subst h1; clear x0 x1 xf r0 r1 rf
  go_wp2_with fail
  refine (qCw B n b _ _ [1, 10001, 2] _ w4 hq4.src rfl rfl rfl (by simp) (by simp)).mono ?_; rintro e w5 ⟨q, rfl, hr, hd5, hz5⟩; have hR5 := hR4.dw hd5 hlt; have hX5 := hX4.dw hd5 Oo; have hT5 := hT4.dwS hd5 Oo Oo; have hq5 := hq4.trans hd5; have hs5 := hd5.size; clear hz5 hr; obtain ⟨⟨x0, x1⟩, xf⟩ := id hX5; obtain ⟨⟨r0, r1⟩, rf⟩ := id hR5
  go_wp2_with fail
  refine bodyPost_ret (v := .agg #[.int .i64 q, .slice (some ⟨g, 0, none⟩) N c]) (by simp [results, Tryz.results36, go_sem, r0, r1]) rfl ⟨q, _, N, g, c, _, w1.heap.size, 0, xss, rfl, (((hT5.putS (.inr Oo) _ _).putS (.inl Oo) _ _).putS (.inl Oo) _ _).r, ⟨Oo, Oo, by simp; omega⟩, HS.out, ⟨hN1, hN2, hcl⟩, .inr ⟨Oo, rfl⟩, ((hq5.put Oo _ _).put (nl _) _ _).put (nl _) _ _⟩
 by_cases h2 : t = 2
 ·subst h2; have i0 : (1 : Int) ≤ (N : Int) := Oo; have i1 : ¬ c = 1 := Oo
  go_wp2_with fail
  refine bodyPost_ret (v := .agg #[.int .i64 m, .slice (some ⟨g, 1, none⟩) (N - 1) (c - 1)]) (by simp [results, Tryz.results36, go_sem, r0, r1]) rfl ⟨m, _, N, g, c, _, w1.heap.size, 1, xss, rfl, (((hT4.putS (.inr Oo) _ _).putS (.inl Oo) _ _).putS (.inl Oo) _ _).r, ⟨Oo, Oo, by simp; omega⟩, HS.out, ⟨hN1, hN2, hcl⟩, .inr ⟨Oo, rfl⟩, ((hq4.put Oo _ _).put (nl _) _ _).put (nl _) _ _⟩
 by_cases h3 : t = 3
 ·subst h3
  go_wp2_with fail
  refine bodyPost_ret (v := .agg #[.int .i64 m, .slice none 0 0]) (by simp [results, Tryz.results36, go_sem, r0, r1]) rfl ⟨m, _, N, g, c, _, w1.heap.size, 0, xss, rfl, (((hT4.putS (.inr Oo) _ _).putS (.inl Oo) _ _).putS (.inl Oo) _ _).r, ⟨Oo, Oo, by simp; omega⟩, HS.out, ⟨hN1, hN2, hcl⟩, .inl rfl, ((hq4.put Oo _ _).put (nl _) _ _).put (nl _) _ _⟩
 have h0' : (t == 0) = false := by simpa using h0
 have h1' : (t == 1) = false := by simpa using h1
 have h2' : (t == 2) = false := by simpa using h2
 have h3' : (t == 3) = false := by simpa using h3
 go_wp2_with fail
 refine bodyPost_ret (v := .agg #[.int .i64 m, .slice (some ⟨g, 0, none⟩) N c]) (by simp [results, Tryz.results36, go_sem, r0, r1]) rfl ⟨m, _, N, g, c, _, w1.heap.size, 0, xss, rfl, ((hT4.putS (.inl Oo) _ _).putS (.inl Oo) _ _).r, ⟨Oo, Oo, by simp; omega⟩, HS.out, ⟨hN1, hN2, hcl⟩, .inr ⟨Oo, rfl⟩, (hq4.put (nl _) _ _).put (nl _) _ _⟩
end
section

theorem OwSR.putS {lo hi : Nat} {u : World} {v : Value} {xss : Tb} (h : OwSR lo hi u v xss) {b : Nat} (hb : b < lo ∨ hi ≤ b) (k : Nat) (x : Value) : OwSR lo hi (u.setCell ⟨b, k, none⟩ x) v xss :=
 h.stay (fun j h1 h2 => heap_setCell_other u ⟨b, k, none⟩ j x (fun e => by simp at e; omega))
theorem OwSR.dwS {lo hi : Nat} {B n b : Nat} {w w' : World} {v : Value} {xss : Tb} (h : OwSR lo hi w v xss) (hd : DW B n b w w') (h1 : b < lo) (h2 : hi ≤ w.heap.size) : OwSR lo hi w' v xss :=
 h.stay (fun j h3 h4 => hd.chg.block j Oo (.inr Oo))
theorem tailR {lo hi g N c k : Nat} {w : World} {t : Tb} (h : OwSR lo hi w (.slice (some ⟨g, 0, none⟩) N c) t) (hst : Stp N t) (hk : k ≤ 1) : RdT w (.slice (some ⟨g, k, none⟩) (N - k) (c - k)) (t.drop k) := by
 have hr := h.ow.rd
 obtain rfl | rfl : k = 0 ∨ k = 1 := Oo
 ·simpa using hr
 ·exact RdT.tail (off := 0) hr (N - 1) (by rw [hst.1])
end
section

theorem qNY {α : Type} {l : List α} {k : Nat} {x : α} (h : l[k]? = some x) : l.set k x = l := by
 apply List.ext_getElem?
 intro i
 rw [List.getElem?_set]
 by_cases e : k = i
 ·subst e; rw [if_pos rfl, if_pos (List.getElem?_eq_some_iff.1 h).1, h]
 ·rw [if_neg e]

def qCz : List (Int × Li) → List Value → List Value
 | p :: ps, u :: us => .int .i64 p.1 :: u :: qCz ps us
 | _, _ => []
theorem qGL : ∀ (ps : List (Int × Li)) (us : List Value) (k : Nat) (p : Int × Li), us.length = ps.length → ps[k]? = some p → (qCz ps us)[k * 2]? = some (.int .i64 p.1)
 | [], _, k, p, _, h => by simp at h
 | q :: ps, [], k, p, hl, _ => by simp at hl
 | q :: ps, u :: us, 0, p, hl, h => by simp at h; subst h; rfl
 | q :: ps, u :: us, k + 1, p, hl, h => by
   rw [show (k + 1) * 2 = k * 2 + 1 + 1 by omega]; exact qGL ps us k p (by simpa using hl) (by simpa using h)
theorem qI9 : ∀ (ps : List (Int × Li)) (us : List Value) (k : Nat), us.length = ps.length → (qCz ps us)[k * 2 + 1]? = us[k]?
 | [], [], k, _ => by simp [qCz]
 | [], u :: us, k, hl => by simp at hl
 | q :: ps, [], k, hl => by simp at hl
 | q :: ps, u :: us, 0, hl => rfl
 | q :: ps, u :: us, k + 1, hl => by
   rw [show (k + 1) * 2 + 1 = k * 2 + 1 + 1 + 1 by omega]; exact qI9 ps us k (by simpa using hl)
theorem qKB (q : Int × Li) : ∀ (ps : List (Int × Li)) (us : List Value) (k : Nat), us.length = ps.length → (qCz ps us).set (k * 2) (.int .i64 q.1) = qCz (ps.set k q) us
 | [], us, k, _ => by simp [qCz]
 | p :: ps, [], k, h => by simp at h
 | p :: ps, u :: us, 0, h => rfl
 | p :: ps, u :: us, k + 1, h => by
   have := qKB q ps us k (by simpa using h); rw [show (k + 1) * 2 = k * 2 + 1 + 1 by omega]; simp only [List.set_cons_succ, qCz, this]

def OwP (w : World) (B : Nat) (X : Nat → Prop) (v : Value) (ps : List (Int × Li)) : Prop :=
 ∃ us : List Value, us.length = ps.length ∧ w.ownsRow B 34 2 v ps.length (qCz ps us) ∧
   (∀ (k : Nat) (u : Value) (p : Int × Li), us[k]? = some u → ps[k]? = some p → OwI w B u p.2) ∧
   (∀ (i j : Nat) (u u' : Value) (b : Nat), us[i]? = some u → us[j]? = some u' → u.ownBlock = some b → u'.ownBlock = some b → i = j) ∧
   (∀ (i : Nat) (u : Value) (b : Nat), us[i]? = some u → u.ownBlock = some b → v.ownBlock = some b → False) ∧
   (∀ b : Nat, v.ownBlock = some b → ¬ X b) ∧ (∀ (k : Nat) (u : Value) (b : Nat), us[k]? = some u → u.ownBlock = some b → ¬ X b)
theorem OwP.shape {w : World} {B : Nat} {X : Nat → Prop} {v : Value} {ps : List (Int × Li)} (h : OwP w B X v ps) : ∃ o c, v = .slice o ps.length c := by
 obtain ⟨us, hl, ⟨_, hr⟩, -⟩ := h
 rcases hr with ⟨rfl, h0⟩ | ⟨g, cap, cur, rfl, -⟩
 ·exact ⟨none, 0, by rw [h0]⟩
 ·exact ⟨_, _, rfl⟩
theorem OwP.lt {w : World} {B : Nat} {X : Nat → Prop} {v : Value} {ps : List (Int × Li)} (h : OwP w B X v ps) : ∀ k, v.ownBlock = some k → B ≤ k ∧ k < w.heap.size := by
 obtain ⟨us, hl, hr, -⟩ := h; exact hr.lt
theorem OwP.mono {w : World} {B B' : Nat} {X : Nat → Prop} {v : Value} {ps : List (Int × Li)} (h : OwP w B X v ps) (hB : B' ≤ B) : OwP w B' X v ps := by
 obtain ⟨us, hl, hr, h1, h2⟩ := h
 refine ⟨us, hl, ⟨hr.1, ?_⟩, fun k u p hu hp => (h1 k u p hu hp).mono hB, h2⟩
 rcases hr.2 with h | ⟨g, cap, cur, hv, hg, r⟩
 ·exact .inl h
 ·exact .inr ⟨g, cap, cur, hv, Oo, r⟩
theorem OwP.nil (w : World) (X : Nat → Prop) (hX : ¬ X w.heap.size) : OwP (w.alloc (.cells #[] 34)) w.heap.size X (.slice (some ⟨w.heap.size, 0, none⟩) 0 0) [] :=
 ⟨[], rfl, World.ownsRow_lit (base := w.heap.size) (e := 34) (size := 2) w #[] 0 (nl _) (Nat.zero_le _) rfl, by simp, by simp, by simp, fun b hb => by
   obtain rfl : w.heap.size = b := by simpa [Value.ownBlock] using hb
   exact hX, by simp⟩
theorem OwP.stay {w w' : World} {B : Nat} {X Y : Nat → Prop} {v : Value} {ps : List (Int × Li)} (h : OwP w B X v ps) (hk : ∀ k, B ≤ k → k < w.heap.size → ¬ X k → w'.heap[k]? = w.heap[k]?) (hY : ∀ k, B ≤ k → k < w.heap.size → ¬ X k → ¬ Y k) : OwP w' B Y v ps := by
 obtain ⟨us, hl, hr, h1, h2, h3, h4, h5⟩ := h
 have hlt : ∀ (i : Nat) (u : Value) (b : Nat), us[i]? = some u → u.ownBlock = some b → B ≤ b ∧ b < w.heap.size := fun i u b hu hb => by
  have hi : i < us.length := (List.getElem?_eq_some_iff.1 hu).1; exact (h1 i u (ps[i]'Oo) hu (by simp [show i < ps.length by omega])).lt b hb
 refine ⟨us, hl, ⟨hr.1, ?_⟩, fun k u p hu hp => ?_, h2, h3, fun b hb => hY b (hr.lt b hb).1 (hr.lt b hb).2 (h4 b hb), fun k u b hu hb => hY b (hlt k u b hu hb).1 (hlt k u b hu hb).2 (h5 k u b hu hb)⟩
 ·rcases hr.2 with h | ⟨g, cap, cur, hv, hg, hh, r⟩
  ·exact .inl h
  ·have hlg : g < w.heap.size := (Array.getElem?_eq_some_iff.1 hh).1; exact .inr ⟨g, cap, cur, hv, hg, by rw [hk g hg hlg (h4 g (by rw [hv]; rfl))]; exact hh, r⟩
 ·obtain ⟨e1, e2⟩ := h1 k u p hu hp; refine ⟨e1, ?_⟩; rcases e2 with e2 | ⟨g, cap, cur, hv, hg, hh, r⟩
  ·exact .inl e2
  ·have hb : u.ownBlock = some g := by rw [hv]; rfl
   exact .inr ⟨g, cap, cur, hv, hg, by rw [hk g hg (hlt k u g hu hb).2 (h5 k u g hu hb)]; exact hh, r⟩
theorem OwP.below {w w' : World} {B : Nat} {X : Nat → Prop} {v : Value} {ps : List (Int × Li)} (h : OwP w B X v ps) (hb : Below w.heap.size w w') : OwP w' B X v ps :=
 h.stay (fun k _ hk _ => hb.block k hk) (fun _ _ _ h => h)
theorem OwP.weak {w : World} {B : Nat} {X Y : Nat → Prop} {v : Value} {ps : List (Int × Li)} (h : OwP w B X v ps) (hY : ∀ b, Y b → X b) : OwP w B Y v ps :=
 h.stay (fun _ _ _ _ => rfl) (fun k _ _ h2 h3 => h2 (hY k h3))
theorem OwP.rd {w : World} {B : Nat} {X : Nat → Prop} {v : Value} {ps : List (Int × Li)} (h : OwP w B X v ps) : RdM w v ps := by
 obtain ⟨us, hl, hr, h1, -⟩ := h
 rcases id hr.2 with ⟨rfl, h0⟩ | ⟨g, cap, cur, rfl, hg, hh, hn, hcm, hcs, ht⟩
 ·have : ps = [] := List.eq_nil_of_length_eq_zero h0; subst this; exact ⟨none, 0, rfl, ⟨Nat.zero_le _, Nat.zero_le _, fun _ => rfl⟩, fun k row hx => by simp at hx⟩
 ·refine ⟨_, _, rfl, ⟨Oo, hn, fun h => by cases h⟩, fun k p hx => ?_⟩; have hk : k < ps.length := (List.getElem?_eq_some_iff.1 hx).1; have hu : us[k]? = some us[k] := by simp [hl, hk]
  refine ⟨g, 0, us[k], rfl, ?_, ?_, (h1 k _ p hu hx).rd⟩
  ·rw [Nat.zero_add, World.ownsRow.cellAt hr (k * 2) Oo]; exact qGL ps us k p hl hx
  ·rw [Nat.zero_add, World.ownsRow.cellAt hr (k * 2 + 1) Oo, qI9 ps us k hl]; exact hu

section
variable {ops : Array Oper} {rest : List Oper} {o : Oper} {a : Act} {Q : Exit → Act → World → Prop}
end
def OwPR (lo hi : Nat) (w : World) (v : Value) (ps : List (Int × Li)) : Prop := OwP w lo (fun b => hi ≤ b) v ps
theorem OwPR.stay {u u' : World} {lo hi : Nat} {v : Value} {ps : List (Int × Li)} (h : OwPR lo hi u v ps) (hk : ∀ k, lo ≤ k → k < hi → u'.heap[k]? = u.heap[k]?) : OwPR lo hi u' v ps :=
 OwP.stay h (fun k h1 _ h3 => hk k h1 Oo) (fun _ _ _ h => h)
theorem OwP.len {w : World} {B n c : Nat} {X : Nat → Prop} {o : Option Addr} {ps : List (Int × Li)} (h : OwP w B X (.slice o n c) ps) : n = ps.length := by
 obtain ⟨o', c', he⟩ := h.shape
 simpa using (Value.slice.inj he).2.1
theorem OwPR.at {w : World} {lo hi g n c : Nat} {ps : List (Int × Li)} (h : OwPR lo hi w (.slice (some ⟨g, 0, none⟩) n c) ps) {k : Nat} {p : Int × Li} (hx : ps[k]? = some p) :
  ∃ o c', w.cell? ⟨g, k * 2, none⟩ = some (.int .i64 p.1) ∧ w.cell? ⟨g, k * 2 + 1, none⟩ = some (.slice o p.2.length c') ∧ OwI w lo (.slice o p.2.length c') p.2 ∧ (∀ b : Nat, (Value.slice o p.2.length c').ownBlock = some b → lo ≤ b ∧ b < hi ∧ b ≠ g) ∧ (∀ j, w.frozen? ⟨g, j, none⟩ = false) ∧
    (∀ w' row', row'.length = p.2.length → w.grownBy w' (Value.slice o p.2.length c').ownBlock → OwI w' lo (.slice o p.2.length c') row' → OwPR lo hi w' (.slice (some ⟨g, 0, none⟩) n c) (ps.set k (p.1, row'))) := by
 have hn := h.len
 obtain ⟨us, hl, hr, h1, h2, h3, h4, h5⟩ := h
 subst hn
 have hk : k < ps.length := (List.getElem?_eq_some_iff.1 hx).1
 have hu : us[k]? = some us[k] := by simp [hl, hk]
 have how := h1 k _ p hu hx
 obtain ⟨o, c', he⟩ := how.shape
 rw [he] at how hu
 refine ⟨o, c', by rw [World.ownsRow.cellAt hr (k * 2) Oo]; exact qGL ps us k p hl hx, by rw [World.ownsRow.cellAt hr (k * 2 + 1) Oo, qI9 ps us k hl]; exact hu, how, fun b hb => ⟨(how.lt b hb).1, by have := h5 k _ b hu hb; omega, fun e => h3 k _ g hu (by rw [hb, e]) rfl⟩, fun j => World.ownsRow.frozenAt hr j, fun w' row' hlen hg how' => ?_⟩
 have hr' := hr.kept hg (.inr fun e => h3 k _ g hu (by rw [← e]; rfl) rfl)
 have hcs : qCz (ps.set k (p.1, row')) us = qCz ps us := by
  rw [← qKB (p.1, row') ps us k hl]; exact qNY (qGL ps us k p hl hx)
 refine ⟨us, by simp [hl], by rw [List.length_set, hcs]; exact hr', fun i u r hi hxi => ?_, h2, h3, h4, h5⟩
 ·rw [List.getElem?_set] at hxi
  by_cases e : k = i
  ·subst e; rw [if_pos rfl, if_pos hk] at hxi; cases hxi
   rw [hu] at hi; cases hi
   exact how'
  ·rw [if_neg e] at hxi; refine (h1 i u r hi hxi).kept hg ?_; cases eo : u.ownBlock with
   | none => exact .inl rfl
   | some b => exact .inr fun e' => e (h2 k i _ u b hu hi (by rw [← e']) eo)
end
section

theorem SpR.read {w w' : World} {B n b : Nat} {e : Ending} (h : SpR w w' B n b e) : ∃ (m : Int) (ot : Option Addr) (q ct hi : Nat) (tt : Tb), e = .returned (.agg #[.int .i64 m, .slice ot q ct]) ∧ q ≤ 11 ∧ Rds w.heap.size hi w' (fun u => RdT u (.slice ot q ct) tt) ∧ DW B n b w w' := by
 obtain ⟨m, v, N, g, c, lo, hi, k, t, rfl, hT, ⟨hlo, hg, hhi⟩, hst, ⟨hN1, hN2, hNc⟩, hvt, hd⟩ := h
 rcases hvt with rfl | ⟨hk, rfl⟩
 ·exact ⟨m, none, 0, 0, hi, [], rfl, Oo, ⟨hhi, fun u _ => ⟨none, 0, rfl, ⟨Nat.zero_le _, Nat.zero_le _, fun _ => rfl⟩, fun k row hx => by simp at hx⟩⟩, hd⟩
 ·exact ⟨m, _, _, _, hi, t.drop k, rfl, Oo, ⟨hhi, fun u hu => tailR (hT.stay (fun j h1 h2 => hu j Oo h2)) hst hk⟩, hd⟩
theorem OwP.rds {w : World} {B : Nat} {X : Nat → Prop} {v : Value} {ps : List (Int × Li)} (h : OwP w B X v ps) : Rds B w.heap.size w (fun u => RdM u v ps) :=
 ⟨Nat.le_refl _, fun u hu => (h.stay (fun k h1 h2 _ => hu k h1 h2) (fun _ _ _ h => h)).rd⟩
theorem OwP.dw {w w' : World} {B' B n b : Nat} {X : Nat → Prop} {v : Value} {ps : List (Int × Li)} (h : OwP w B' X v ps) (hd : DW B n b w w') (hb : b < B') : OwP w' B' X v ps :=
 h.stay (fun k h1 h2 _ => hd.chg.block k h2 (.inr Oo)) (fun _ _ _ h => h)
theorem OwP.put {w : World} {B T p : Nat} {v : Value} {ps : List (Int × Li)} (h : OwP w B (fun b => b = p ∨ T ≤ b) v ps) {g : Nat} (hg : T ≤ g) (k : Nat) (x : Value) : OwP (w.setCell ⟨g, k, none⟩ x) B (fun b => b = p ∨ T ≤ b) v ps :=
 h.stay (fun j _ _ hX => heap_setCell_other w ⟨g, k, none⟩ j x (fun e => by simp at e; exact hX (.inr Oo))) (fun _ _ _ h => h)
theorem OwP.grown {w w' : World} {B T p : Nat} {v : Value} {ps : List (Int × Li)} (h : OwP w B (fun b => b = p ∨ T ≤ b) v ps) {r : Option Nat} (hg : w.grownBy w' r) (hr : ∀ j, r = some j → T ≤ j) : OwP w' B (fun b => b = p ∨ T ≤ b) v ps :=
 h.stay (fun j _ h2 hX => hg.block j h2 (fun e => hX (.inr (hr j e.symm)))) (fun _ _ _ h => h)
end
end Go.Proofs.YtfpphfjlpgefaaaGreat
