/- Lemmas. -/
import Derived.Test.YtfpphfjlpgefaaaGreatqM5
import Derived.Test.YtfpphfjlpgefaaaGreatqSerC
import Derived.Deep.RegionHeld3
import Derived.Test.YtfpphfjlpgefaaaGreatqSRev
import Derived.Test.YtfpphfjlpgefaaaGreatqM14
import Derived.Test.YtfpphfjlpgefaaaGreatqM6
set_option maxHeartbeats 4000000
set_option maxRecDepth 100000
set_option linter.unusedSimpArgs false
set_option linter.unusedVariables false
namespace Go.Proofs.YtfpphfjlpgefaaaGreat
open Go.RowKit
section

end
section

theorem qP6 {m : Int} {n : Nat} {f a : Li} {k : Nat} (hk : k < a.length) : qAH m n f (a.drop k) = qCQ m (at0 a k) (qAZ m n (qAH m n f (a.drop (k + 1))) f) := qJp (qA5 hk)

theorem qK4 (m d : Int) (n : Nat) (v u : Value) (xs fs : Li) (w : World) (hd : d = (n : Int) - 1) (hv : RdI w v xs) (hu : RdI w u fs) (h1 : 1 ≤ n) (hl : 1 ≤ xs.length) (hn : n ≤ 1048576) (hm : 2 ≤ m) (hm' : m ≤ 10000)
  (hx : ∀ x ∈ xs, 0 ≤ x ∧ x < m) (hf : ∀ x ∈ fs, 0 ≤ x ∧ x < m) :
  Calls Tryz.prog 100 #[.int .i64 m, v, u, .int .i64 d] w fun e w' => ∃ v', e = .returned v' ∧ OwI w' w.heap.size v' (qAH m n fs (xs.take n)) ∧ Below w.heap.size w w' := by
 subst hd
 obtain ⟨o, c, rfl, hmx, -⟩ := id hv
 obtain ⟨o', c', rfl, hmy, -⟩ := id hu
 have hml := hmx.1
 unfold maxLen at hmx hmy
 have m0 : (m == 0) = false := by simp; omega
 have m1 : ¬ m = 0 := Oo
 obtain ⟨bx, fx, rfl, -⟩ := hv.cells hl
 have hls : (xs.take n).length = min n xs.length := List.length_take
 have HR := dd (show ∀ k, k < (xs.take n).length → at0 (xs.take n) k = at0 xs k from fun k hk => by
  unfold at0 List.getD; rw [List.getElem?_take, if_pos Oo])
 generalize xs.take n = zs at hls HR ⊢
 obtain ⟨z, hz, hzz⟩ : ∃ z : Nat, min ((xs.length : Int) - 1) ((n : Int) - 1) = (z : Int) - 1 ∧ zs.length = z := ⟨zs.length, Oo, rfl⟩
 go_enter Tryz.func100, Tryz.ntmps100
 go_wp2_with (at_make; refine mkI _ rfl _ _ rfl _ _ _ n rfl rfl Oo Oo ?_; intro w1 hown hb hs1)
 all_goals
  clear hs1
  go_loopw [9, 10] (fun s i wr => ∃ (j : Nat) (ov : Option Addr) (cv : Nat), j ≤ zs.length ∧ i = .int .i64 ((j : Int) - 1) ∧ s = .slice ov n cv ∧ OwI wr w.heap.size (.slice ov n cv) (qAH m n fs (zs.drop j)) ∧ Below w.heap.size w wr) (fun _ i _ => ((intOf i) + 1).toNat)
  case atStart => first | exact ⟨zs.length, _, _, Nat.le_refl _, by rw [hzz], rfl, by rw [List.drop_of_length_le (nl _)]; exact hown, hb⟩ | exact ⟨n, _, _, Oo, rfl, rfl, by rw [List.drop_of_length_le Oo]; exact hown, hb⟩ | exact ⟨xs.length, _, _, Oo, rfl, rfl, by rw [List.drop_of_length_le Oo]; exact hown, hb⟩
  case round =>
   obtain ⟨j, ov, cv, hj, rfl, rfl, hO, hB⟩ := hrel
   by_cases hlt : 0 < j
   ·obtain ⟨k, rfl⟩ : ∃ k, j = k + 1 := ⟨j - 1, Oo⟩; have ek : (((k + 1 : Nat) : Int)) - 1 = (k : Int) := Oo; rw [ek]; clear ek; have HS := dd (qP6 (m := m) (n := n) (f := fs) (a := zs) (k := k) Oo); rw [HR.out k Oo] at HS; have HLl := dd (qDo m n fs (zs.drop (k + 1))); have HRl := dd (qEy (m := m) (show 0 < m by omega) (n := n) (f := fs) (cs := zs.drop (k + 1))); generalize qAH m n fs (zs.drop (k + 1)) = l at hO HS HLl HRl; have hkx := qAG Oo hx k; have i0 : (0 : Int) ≤ (k : Int) := Oo; have i1 : (k : Int) < (xs.length : Int) := Oo; have i2 : k < xs.length := Oo; have n0 : 0 < n := h1; have hBs := hB.size
    go_wp2_with (go_at_call 97; refine (qFj m _ n _ _ l fs _ rfl hO.rd (hu.below hB) h1 hn hm Oo HRl.out hf).mono ?_; rintro e w2 ⟨vt, rfl, how, hb2⟩; obtain ⟨ot, ct, rfl⟩ := how.shapeN (n := n) (qBX _ _ _ _))
    obtain ⟨g, rfl, hgl, hgl'⟩ := how.row h1; have B2 := hB.trans (hb2.mono hBs); have cx := (hv.below B2).cell0 (qA5 i2); have hT := qAG Oo (qDi (m := m) Oo (n := n) (a := l) (b := fs)) 0; have hc0 := how.cell (k := 0) (qA5 (by rw [qBX]; omega)); have hf0 := how.fz 0; have hMod := qA6 (a := at0 (qAZ m n l fs) 0 + at0 xs k) (show 0 < m by omega); have Hn := dd how; clear how
    go_wp2_with fail
    have e1 : IntKind.i64.wrap (at0 (qAZ m n l fs) 0 + at0 xs k) = at0 (qAZ m n l fs) 0 + at0 xs k := IntWalk.i64_in _ Oo; have e2 : (at0 (qAZ m n l fs) 0 + at0 xs k).tmod m = (at0 (qAZ m n l fs) 0 + at0 xs k) % m := Int.tmod_eq_emod_of_nonneg Oo
    go_still_tail 12, kr
    change wpList _ _ _ _ _ w2.drew
    go_wp2; have h2 := OwI.put Hn.out 0 ((at0 (qAZ m n l fs) 0 + at0 xs k) % m); rw [show (qAZ m n l fs).set 0 ((at0 (qAZ m n l fs) 0 + at0 xs k) % m) = qCQ m (at0 xs k) (qAZ m n l fs) from rfl, ← HS.out] at h2; exact ⟨⟨k, _, _, Oo, by go_num, rfl, h2.mono hBs, (qAL B2 Oo _).drew⟩, by simp [intOf]⟩
   ·obtain rfl : j = 0 := Oo; rw [List.drop_zero] at hO; go_wp2; go_ret; exact ⟨_, rfl, hO, hB⟩

end
section

theorem qPI (m d : Int) (n : Nat) (v : Value) (xs : Li) (w : World) (hd : d + 1 = (n : Int)) (hv : RdI w v xs) (hl : xs.length = n) (h1 : 2 ≤ n) (hn : n ≤ 1000) (hm : 2 ≤ m) (hm' : m ≤ 10000) (hx : ∀ x ∈ xs, 0 ≤ x ∧ x < m) :
  Calls Tryz.prog 178 #[.int .i64 m, v, .int .i64 d] w fun e w' => ∃ v', e = .returned v' ∧ OwI w' w.heap.size v' (qAc m n xs) ∧ Below w.heap.size w w' := by
 subst hl
 obtain ⟨o, c, rfl, hmx, -⟩ := id hv
 unfold maxLen at hmx
 obtain ⟨bx, fx, rfl, hcx⟩ := hv.cells Oo
 have cx : w.cell? ⟨bx, fx + 1, none⟩ = some (.int .i64 (at0 xs 1)) := hcx 1 _ (qA5 Oo)
 have lx := qBH cx
 have hxr := qAG Oo hx 1
 obtain ⟨u, hu⟩ : ∃ u, u = qAI m (at0 xs 1) := ⟨_, rfl⟩
 have hur : 0 ≤ u ∧ u < m := by rw [hu]; exact qDn Oo _
 have HU := dd hu
 clear hcx hu
 have i1 : (1 : Int) < (xs.length : Int) := Oo
 have i2 : 1 < xs.length := Oo
 go_enter Tryz.func178, Tryz.ntmps178
 go_wp2_with (first | (at_make; go_loud (refine mkI _ rfl _ _ rfl _ _ _ xs.length rfl rfl rfl Oo ?_; intro w1 hown hb hs1; have cx1 := qA0 hb (nl _) cx; have hc0 := hown.cell (k := 1) (qE9 xs.length 1 0 Oo); have hf0 := hown.fz 1; have Hown := dd hown; clear hown; have Hs1 := dd hs1; clear hs1)) | (go_at_call 120; refine (qFp m (at0 xs 1) _ hm Oo Oo Oo).mono ?_; rw [← HU.out]; rintro e w' ⟨rfl, rfl⟩))
 have hOz := Hown.out.put 1 u
 have hbz := qAL hb (g := w.heap.size) (k := 1) (nl _) (.int .i64 u)
 rw [HU.out, qK9, ← HU.out] at hOz
 clear hc0 hf0 Hown cx1 Hs1 hb
 generalize w1.setCell ⟨w.heap.size, 1, none⟩ (.int .i64 u) = w2 at hOz hbz ⊢
 go_loopw [9, 10] (fun i _ wr => ∃ k : Nat, k + 2 ≤ xs.length ∧ i = .int .i64 ((k : Int) + 2) ∧ OwI wr w.heap.size (.slice (some ⟨w.heap.size, 0, none⟩) xs.length xs.length) (qAD m xs.length xs (k + 1)) ∧ Below w.heap.size w wr) (fun i _ _ => xs.length - (intOf i).toNat)
 case atStart => exact ⟨0, Oo, by go_num, hOz, hbz⟩
 case round =>
  clear hOz hbz; obtain ⟨k, hk, rfl, hO, hB⟩ := hrel; have hBs := hB.size
  by_cases hlt : k + 2 < xs.length
  ·have i3 : (0 : Int) ≤ (k : Int) + 2 := Oo; have i4 : (k : Int) + 2 ≤ d := Oo; have i5 : (k : Int) + 2 < (xs.length : Int) := Oo; have i6 : ((k : Int) + 2).toNat = k + 2 := Oo; have i7 : (k : Int) + 2 < ((k + 3 : Nat) : Int) := Oo; have HS := dd (qQw (m := m) (show 0 < m by omega) (n := xs.length) (k := k) (a := xs) hlt); have HN := dd (show (qAD m xs.length xs (k + 1)).set (k + 2) ((-(at0 (qAH m xs.length (qAD m xs.length xs (k + 1)) xs) (k + 2)) * u) % m) = qAD m xs.length xs (k + 1 + 1) by rw [HU.out]; rfl); have HLl := dd (qFo m xs.length xs (k + 1)); have HRl := dd (qFz (m := m) (show 0 < m by omega) xs.length xs (k + 1)); rw [← HU.out] at HS; obtain ⟨q, hq⟩ : ∃ q, q = qAH m (k + 3) (qAD m xs.length xs (k + 1)) (xs.take (k + 3)) := ⟨_, rfl⟩; have HQ := dd hq; have hql : q.length = k + 3 := by rw [hq]; exact qDo _ _ _ _
   have hqr : 0 ≤ at0 q (k + 2) ∧ at0 q (k + 2) < m := qAG Oo (by rw [hq]; exact qEy Oo) _; rw [← hq] at HS; have HN2 := dd (show (qAD m xs.length xs (k + 1)).set (k + 2) ((m - at0 q (k + 2)) * u % m) = qAD m xs.length xs (k + 1 + 1) by rw [HS.out]; exact HN.out); clear hq HN HS; have m0 : (m == 0) = false := by simp; omega
   have m1 : ¬ m = 0 := Oo; have hp := Int.mul_nonneg (show 0 ≤ m - at0 q (k + 2) by omega) hur.1; have hp2 : (m - at0 q (k + 2)) * u ≤ 10000 * 10000 := Int.mul_le_mul Oo Oo hur.1 Oo; have e1 : IntKind.i64.wrap (m - at0 q (k + 2)) = m - at0 q (k + 2) := IntWalk.i64_in _ Oo; have e2 : IntKind.i64.wrap ((m - at0 q (k + 2)) * u) = (m - at0 q (k + 2)) * u := IntWalk.i64_in _ Oo; have e3 : ((m - at0 q (k + 2)) * u).tmod m = (m - at0 q (k + 2)) * u % m := Int.tmod_eq_emod_of_nonneg Oo
   go_wp2_with (go_at_call 100; refine (qK4 m _ (k + 3) _ _ xs (qAD m xs.length xs (k + 1)) _ Oo (hv.below hB) hO.rd Oo Oo Oo hm hm' hx HRl.out).mono ?_; rw [← HQ.out]; rintro e w3 ⟨vp, rfl, hop, hb3⟩; obtain ⟨op, cp, rfl⟩ := hop.shapeN (n := k + 3) hql; obtain ⟨gp, rfl, hgp, hgp'⟩ := hop.row Oo; have hcv := hop.cell (k := k + 2) (qA5 (show k + 2 < q.length by omega)); have hO3 := hO.below hb3; have hB3 := hB.trans (hb3.mono hBs); have hc9 := hO3.cell (k := k + 2) (qA5 (show k + 2 < (qAD m xs.length xs (k + 1)).length by rw [HLl.out]; omega)); have hf9 := hO3.fz (k + 2); have Hn := dd hO3; clear hO3 hop)
   have hOn := Hn.out.put (k + 2) ((m - at0 q (k + 2)) * u % m); rw [HN2.out] at hOn; have hbn := qAL hB3 (g := w.heap.size) (k := k + 2) (nl _) (.int .i64 ((m - at0 q (k + 2)) * u % m)); exact ⟨⟨k + 1, Oo, by go_num, by first | exact hOn | exact hOn.drewN 1, by first | exact hbn | exact hbn.drew⟩, by simp [intOf]; omega⟩
  ·have hk' : xs.length = k + 2 := Oo; rw [qJl hk'] at hO; have i1 : ¬ (k : Int) + 2 ≤ d := Oo; clear hk'; go_wp2; go_ret; exact ⟨_, rfl, hO, hB⟩

theorem qPR (m d : Int) (n : Nat) (v : Value) (xs : Li) (w : World) (hd : d + 1 = (n : Int)) (hv : RdI w v xs) (hl : xs.length = n) (h1 : 1 ≤ n) (hn : n ≤ 1000) (hm : 2 ≤ m) (hm' : m ≤ 10000) (hx : ∀ x ∈ xs, 0 ≤ x ∧ x < m) :
  Calls Tryz.prog 208 #[.int .i64 m, v, .int .i64 d] w fun e w' => ∃ v', e = .returned v' ∧ OwI w' w.heap.size v' (qCj m n xs) ∧ Below w.heap.size w w' := by
 subst hl
 obtain ⟨o, c, rfl, hmx, -⟩ := id hv
 unfold maxLen at hmx
 obtain ⟨bx, fx, rfl, hcx⟩ := hv.cells Oo
 have cx : w.cell? ⟨bx, fx, none⟩ = some (.int .i64 (at0 xs 0)) := hcx 0 _ (qA5 Oo)
 have hxr := qAG Oo hx 0
 obtain ⟨u, hu⟩ : ∃ u, u = qAI m (at0 xs 0) := ⟨_, rfl⟩
 have hur : 0 ≤ u ∧ u < m := by rw [hu]; exact qDn Oo _
 have HU := dd hu
 clear hcx hu
 have i0 : (0 : Int) < (xs.length : Int) := Oo
 have i2 : 0 < xs.length := Oo
 go_enter Tryz.func208, Tryz.ntmps208
 go_wp2_with (go_at_call 120; refine (qFp m (at0 xs 0) _ hm Oo Oo Oo).mono ?_; rw [← HU.out]; rintro e w' ⟨rfl, rfl⟩)
 have O1 := OwI.lit w [u] (by simp [maxLen])
 simp at O1
 have HG0 := dd (show [u] = qAq m xs 0 by rw [HU.out]; rfl)
 rw [HG0.out] at O1
 have B1 : Below w.heap.size w (w.alloc (.cells #[.int .i64 u] 2)) := bZ
 generalize w.alloc (.cells #[.int .i64 u] 2) = w1 at O1 B1 ⊢
 go_loopw [8, 9, 10, 11] (fun so i _ _ wr => ∃ (k : Nat) (ov : Option Addr) (cv : Nat), k + 1 ≤ xs.length ∧ i = .int .i64 ((k : Int) + 1) ∧ so = .slice ov (k + 1) cv ∧ OwI wr w.heap.size (.slice ov (k + 1) cv) (qAq m xs k) ∧ Below w.heap.size w wr) (fun _ i _ _ _ => xs.length - (intOf i).toNat)
 case atStart => exact ⟨0, _, _, Oo, by go_num, rfl, O1, B1⟩
 case round =>
  clear O1 B1; obtain ⟨k, ov, cv, hk, rfl, rfl, hO, hB⟩ := hrel; have hBs := hB.size; have HLg := dd (qGd m xs k)
  by_cases hlt : k + 1 < xs.length
  ·have i4 : (k : Int) + 1 ≤ d := Oo; obtain ⟨gv, rfl, hgv, hgv'⟩ := hO.row Oo; have hvr := hv.below hB
   go_wp2_with fail
   go_loopw [10, 11] (fun s i w2 => ∃ j : Nat, j ≤ k + 1 ∧ s = .int .i64 (qCp m xs (qAq m xs k) (k + 1) j) ∧ i = .int .i64 ((j : Int) + 1) ∧ ∃ e, w2 = wr.drewN e) (fun _ i _ => k + 2 - (intOf i).toNat)
   case atStart => exact ⟨0, Oo, by simp [qCp, qA3], by go_num, 0, rfl⟩
   case round =>
    obtain ⟨j, hj, rfl, rfl, e, rfl⟩ := hrel
    by_cases hjl : j < k + 1
    ·have i5 : (j : Int) + 1 ≤ (k : Int) + 1 := Oo; have i6 : (j : Int) + 1 < (xs.length : Int) := Oo; have i7 : (0 : Int) ≤ (j : Int) + 1 := Oo; have i8 : ((j : Int) + 1).toNat = j + 1 := Oo; have cj := hvr.cell0 (qA5 (show j + 1 < xs.length by omega)); have cg := hO.cell (k := k + 1 - (j + 1)) (qA5 (show k + 1 - (j + 1) < (qAq m xs k).length by rw [HLg.out]; omega)); have hxj := qAG Oo hx (j + 1); have hgj := qAG Oo (qLa (m := m) (show 0 < m by omega) xs k) (k + 1 - (j + 1)); have hsr := qKd (show 0 < m by omega) xs (qAq m xs k) (k + 1) j; have HS := dd (qQx (m := m) (a := xs) (b := qAq m xs k) (n := k + 1) (i := j)); obtain ⟨p, hp0⟩ : ∃ p, p = k + 1 - (j + 1) := ⟨_, rfl⟩; rw [← hp0] at cg hgj HS; have d0 : (k : Int) + 1 - ((j : Int) + 1) = (p : Int) := Oo; have d1 : (0 : Int) ≤ (p : Int) := Oo; have d2 : (p : Int) < ((k + 1 : Nat) : Int) := Oo; have d3 : (p : Int) < (k : Int) + 1 := Oo; have d4 : IntKind.i64.wrap (p : Int) = (p : Int) := IntWalk.i64_in _ Oo; have HP := dd hp0; clear hp0; generalize at0 xs (j + 1) = x at cj hxj HS; generalize at0 (qAq m xs k) p = y at cg hgj HS; generalize qCp m xs (qAq m xs k) (k + 1) j = s at hsr HS ⊢; have hp := Int.mul_nonneg hxj.1 hgj.1; have hp2 : x * y ≤ 10000 * 10000 := Int.mul_le_mul Oo Oo hgj.1 Oo; have m0 : (m == 0) = false := by simp; omega
     have m1 : ¬ m = 0 := Oo; have e1 : IntKind.i64.wrap (x * y) = x * y := IntWalk.i64_in _ Oo; have e2 : IntKind.i64.wrap (s + x * y) = s + x * y := IntWalk.i64_in _ Oo; have e3 : (s + x * y).tmod m = (s + x * y) % m := Int.tmod_eq_emod_of_nonneg Oo
     go_wp2_with fail
     go_quiet (fail)
     go_wp2; exact ⟨⟨j + 1, Oo, by rw [← HS.out], by go_num, e + nq, by first | rfl | rw [World.drewN_drewN]⟩, by simp [intOf]; omega⟩
    ·obtain rfl : j = k + 1 := Oo; have i5 : ¬ ((k + 1 : Nat) : Int) + 1 ≤ (k : Int) + 1 := Oo; have hsr := qKd (show 0 < m by omega) xs (qAq m xs k) (k + 1) (k + 1); have HS := dd (show qAq m xs k ++ [(m - qCp m xs (qAq m xs k) (k + 1) (k + 1)) * u % m] = qAq m xs (k + 1) by rw [HU.out, qPP (nl _) (.inl rfl)]; rfl); generalize qCp m xs (qAq m xs k) (k + 1) (k + 1) = s at hsr HS ⊢; have hp := Int.mul_nonneg (show 0 ≤ m - s by omega) hur.1; have hp2 : (m - s) * u ≤ 10000 * 10000 := Int.mul_le_mul Oo Oo hur.1 Oo; have m0 : (m == 0) = false := by simp; omega
     have m1 : ¬ m = 0 := Oo; have e1 : IntKind.i64.wrap (m - s) = m - s := IntWalk.i64_in _ Oo; have e2 : IntKind.i64.wrap ((m - s) * u) = (m - s) * u := IntWalk.i64_in _ Oo; have e3 : ((m - s) * u).tmod m = (m - s) * u % m := Int.tmod_eq_emod_of_nonneg Oo; have Hd : Below w.heap.size w (wr.drewN e) := (bY1 hB); have HdO := hO.drewN e; have Hds := Hd.size; generalize wr.drewN e = w2 at Hd HdO Hds ⊢
     go_wp2_with (at_builtin; refine apI w2 rfl _ _ rfl w.heap.size (.slice (some ⟨gv, 0, none⟩) (k + 1) cv) (qAq m xs k) rfl HdO ((m - s) * u % m) rfl (by rw [HLg.out]; omega) Oo ?_; intro v' w4 hO3 hgr hb3 hlt3; clear hgr)
     rw [HS.out] at hO3; obtain ⟨o4, c4, rfl⟩ := hO3.shapeN (n := k + 1 + 1) (qGd _ _ _); exact ⟨⟨k + 1, _, _, Oo, by go_num, rfl, hO3, Hd.trans (hb3.mono (nl _))⟩, by simp [intOf]; omega⟩
  ·have hk' : k = xs.length - 1 := Oo; have HI := dd (show qAq m xs k = qCj m xs.length xs by rw [hk']; rfl); have i4 : ¬ (k : Int) + 1 ≤ d := Oo; rw [HI.out] at hO; clear hk'; go_wp2; go_ret; exact ⟨_, rfl, hO, hB⟩


theorem qHp (m m' : Int) (n : Nat) (v u : Value) (xs : Li) (yss : Tb) (w : World) (hv : RdI w v xs) (hu : RdT w u yss) (hxl : 1 ≤ xs.length) (hxn : xs.length ≤ 1048576) (h1 : 1 ≤ n) (hn : n ≤ 1000) (hm : 2 ≤ m) (hm' : m ≤ 1000000000000)
  (hx : ∀ x ∈ xs, 0 ≤ x ∧ x < m) (hy : PlaT m n yss) :
  Calls Tryz.prog 64 #[.agg #[.int .i64 m', v], .agg #[.int .i64 m, u]] w fun e w' => qC9 w w' m (qAK m n yss xs) e := by
 obtain ⟨o, c, rfl, hmx, -⟩ := id hv
 obtain ⟨o', c', rfl, hmy, -⟩ := id hu
 have hml := hmx.1
 rw [hy.1] at hmy hu ⊢
 have hmt := hmy.1
 unfold maxLen at hmx hmy
 have HY := dd hy
 clear hy
 go_enter Tryz.func64, Tryz.ntmps64
 go_wp2_with fail
 (obtain ⟨w0, hw0⟩ : ∃ W : World, W = (((w.alloc (.cells #[.int .i64 m', .slice o xs.length c] 34)).alloc (.cells #[.int .i64 m, .slice o' n c'] 26)).alloc (.cells #[.int .i64 0, .slice none 0 0] 26)) := ⟨_, rfl⟩; have X0 := (RB2.mk1 w  (.int .i64 m') (.slice o xs.length c) 34).1.below (w' := w0) (bV hw0) (nl _); have Y0 := (RB2.mk2 w (.cells #[.int .i64 m', .slice o xs.length c] 34) (.int .i64 m) (.slice o' n c') 26).1.below (w' := w0) (bV hw0) (nl _); have R0 := (RB2.mk3 w (.cells #[.int .i64 m', .slice o xs.length c] 34) (.cells #[.int .i64 m, .slice o' n c'] 26) (.int .i64 0) (.slice none 0 0) 26).below (w' := w0) (bV hw0) (nl _); have B0 : Below w.heap.size w w0 := (bV hw0); have hv0 := hv.below (w' := w0) (bV hw0) (nl _); have hu0 := hu.below (w' := w0) (bV hw0) (nl _); rw [← hw0]; clear hw0)
 obtain ⟨x0, x1⟩ := id Y0
 have hzl : w.heap.size + 2 < w0.heap.size := R0.1.lt
 go_wp2_with fail
 refine (qGx m 0 o' n c' _ h1 hn hm Oo Oo Oo).mono ?_
 rintro e w1 ⟨vz, rfl, how, hb⟩
 obtain ⟨oz, cz, rfl⟩ := how.shapeN (n := n) (qFS _ _ _)
 rw [qJO] at how
 (have X1 := X0.below hb; have Y1 := Y0.below hb; have R1 := R0.below hb; have hv1 := hv0.below hb; have hu1 := hu0.below hb; have B1 := B0.trans (hb.mono B0.size))
 clear x0 x1
 obtain ⟨x0, x1⟩ := id X1
 have hb1 := hb.size
 have lX := X1.lt
 have lR := R1.1.lt
 go_wp2_with fail
 clear x0 x1
 (have hb : Below w1.heap.size w1 (w1.alloc (.cells #[.int .i64 m, .slice oz n cz] 26)) := bZ; have X2 := X1.below hb; have Y2 := Y1.below hb; have R2 := R1.below hb; have hv2 := hv1.below hb; have hu2 := hu1.below hb; have how := how.alloc (.cells #[.int .i64 m, .slice oz n cz] 26); have B2 := B1.trans (hb.mono B1.size); have O := RB2.mk1 w1 (.int .i64 m) (.slice oz n cz) 26; have hl_w2 := hb.size; clear hb; generalize w1.alloc (.cells #[.int .i64 m, .slice oz n cz] 26) = w2 at O B2 hl_w2 X2 Y2 R2 hv2 hu2 how ⊢)
 refine (qCb m' o xs.length c _ hml).mono ?_
 rintro e w3 ⟨rfl, hb⟩
 (have X3 := X2.below hb; have Y3 := Y2.below hb; have R3 := R2.below hb; have hv3 := hv2.below hb; have hu3 := hu2.below hb; have B3 := B2.trans (hb.mono B2.size))
 have O3 := O.below hb
 have how3 := how.below hb
 have hb3 := hb.size
 clear hb how O lX lR
 have lX := X3.lt
 have lR := R3.1.lt
 have B3s := B3.size
 obtain ⟨bx, fx, rfl, hcx⟩ := hv.cells hxl
 have lx := qBH (hcx 0 _ (qA5 Oo))
 clear hcx
 go_wp2_with fail
 go_loopw [6] (fun i wr => ∃ (j : Nat) (ov : Option Addr) (cv : Nat), j ≤ xs.length ∧ i = .int .i64 ((j : Int) - 1) ∧ OwS wr w0.heap.size (.slice ov n cv) (qAK m n yss (xs.drop j)) ∧ RB2 wr w1.heap.size (.int .i64 m) (.slice ov n cv) ∧ w3.grownBy wr (some w1.heap.size)) (fun i _ => ((intOf i) + 1).toNat)
 case atStart => exact ⟨xs.length, oz, cz, Nat.le_refl _, rfl, by rw [List.drop_length]; exact how3.mono Oo, O3, World.grownBy.refl _ _⟩
 case round =>
  obtain ⟨j, ov, cv, hj, rfl, hO, OO, hg⟩ := hrel; have Br := qDC B3 hg Oo B3s; have Xr := X3.grown hg (by simp; omega); have Yr := Y3.grown hg (by simp; omega); have hvr := hv.below Br; have hur := hu.below Br; have hgs := hg.size
  by_cases hlt : 0 < j
  ·obtain ⟨k, rfl⟩ : ∃ k, j = k + 1 := ⟨j - 1, Oo⟩; have ek : (((k + 1 : Nat) : Int)) - 1 = (k : Int) := Oo; rw [ek]; clear ek; have HS := dd (qIY (m := m) (n := n) (t := yss) (qA5 (show k < xs.length by omega))); have HLl := dd (qAF (m := m) (show 0 < m by omega) n yss (xs.drop (k + 1))); generalize qAK m n yss (xs.drop (k + 1)) = l at hO HS HLl; have HT := dd (qAU (m := m) (show 0 < m by omega) n l yss); have hkx := qAG Oo hx k; have i0 : (0 : Int) ≤ (k : Int) := Oo; have i1 : (k : Int) < (xs.length : Int) := Oo
   go_wp2_with fail
   have hd0 : Below wr.heap.size wr wr.drew := (Below.refl _ _).drew; have hsd0 := hd0.size; have hlb_OO := OO.1.lt; obtain ⟨⟨q0_OO_0, q0_OO_1⟩, qf0_OO⟩ := OO.below (Below.refl wr.heap.size wr) (nl _); obtain ⟨q0_Xr_0, q0_Xr_1⟩ := Xr.below (Below.refl wr.heap.size wr) (nl _); obtain ⟨q0_Yr_0, q0_Yr_1⟩ := Yr.below (Below.refl wr.heap.size wr) (nl _); have q0_cx := (((hvr).below (Below.refl wr.heap.size wr) (nl _))).cell0 (qA5 (show k < xs.length by omega)); refine qHs (S := fun w' => w'.cell? ⟨w1.heap.size , 0, none⟩ = some (.int .i64 m) ∧ w'.cell? ⟨w1.heap.size , 1, none⟩ = some (.slice ov n cv) ∧ w'.cell? ⟨w.heap.size, 0, none⟩ = some (.int .i64 m') ∧ w'.cell? ⟨w.heap.size, 1, none⟩ = some (.slice (some ⟨bx, fx, none⟩) xs.length c) ∧ w'.cell? ⟨w.heap.size + 1, 0, none⟩ = some (.int .i64 m) ∧ w'.cell? ⟨w.heap.size + 1, 1, none⟩ = some (.slice o' n c') ∧ w'.cell? ⟨bx, fx + k, none⟩ = some (.int .i64 (at0 xs k))) 11 kr ?_; have hHeld : (fun w' : World => w'.cell? ⟨w1.heap.size , 0, none⟩ = some (.int .i64 m) ∧ w'.cell? ⟨w1.heap.size , 1, none⟩ = some (.slice ov n cv) ∧ w'.cell? ⟨w.heap.size, 0, none⟩ = some (.int .i64 m') ∧ w'.cell? ⟨w.heap.size, 1, none⟩ = some (.slice (some ⟨bx, fx, none⟩) xs.length c) ∧ w'.cell? ⟨w.heap.size + 1, 0, none⟩ = some (.int .i64 m) ∧ w'.cell? ⟨w.heap.size + 1, 1, none⟩ = some (.slice o' n c') ∧ w'.cell? ⟨bx, fx + k, none⟩ = some (.int .i64 (at0 xs k))) wr.drew := by go_keep
   refine' qBL (i := 0) (v := _) rfl kr kr kr kr (fun _ _ _ h => h) (Or.inl ⟨by rfl, ?yT1⟩) hHeld ?rT1
   case yT1 => (intro w' hSw; (try dsimp only at hSw); go_simp; try with_reducible rfl)
   try simp only [Act.put, sL]
   refine' qBL (i := 1) (v := _) rfl kr kr kr kr (fun _ _ _ h => h) (Or.inl ⟨by rfl, ?yT2⟩) hHeld ?rT2
   case yT2 => (intro w' hSw; (try dsimp only at hSw); go_simp; try with_reducible rfl)
   try simp only [Act.put, sL]
   refine' qBL (i := 3) (v := _) rfl kr kr kr kr (fun _ _ _ h => h) (Or.inl ⟨by rfl, ?yT3⟩) hHeld ?rT3
   case yT3 => (intro w' hSw; (try dsimp only at hSw); go_simp; try with_reducible rfl)
   try simp only [Act.put, sL]
   refine' qBL (i := 4) (v := _) rfl kr kr kr kr (fun _ _ _ h => h) (Or.inl ⟨by rfl, ?yT4⟩) hHeld ?rT4
   case yT4 => (intro w' hSw; (try dsimp only at hSw); go_simp; try with_reducible rfl)
   try simp only [Act.put, sL]
   refine' qBL (i := 5) (v := _) rfl kr kr kr kr (fun _ _ _ h => h) (Or.inl ⟨by rfl, ?yT5⟩) hHeld ?rT5
   case yT5 => (intro w' hSw; (try dsimp only at hSw); go_simp; try with_reducible rfl)
   try simp only [Act.put, sL]
   refine' qBL (i := 6) (v := _) rfl kr kr kr kr (fun _ _ _ h => h) (Or.inl ⟨by rfl, ?yT6⟩) hHeld ?rT6
   case yT6 => (intro w' hSw; (try dsimp only at hSw); go_simp; try with_reducible rfl)
   try simp only [Act.put, sL]
   refine' qBL (i := 7) (v := _) rfl kr kr kr kr (fun _ _ _ h => h) (Or.inl ⟨by rfl, ?yT7⟩) hHeld ?rT7
   case yT7 => (intro w' hSw; (try dsimp only at hSw); go_simp; try with_reducible rfl)
   try simp only [Act.put, sL]
   refine' qBL (i := 8) (v := _) rfl kr kr kr kr (fun _ _ _ h => h) (Or.inl ⟨by rfl, ?yT8⟩) hHeld ?rT8
   case yT8 => (intro w' hSw; (try dsimp only at hSw); go_simp; try with_reducible rfl)
   try simp only [Act.put, sL]
   refine qCR (i := 2) rfl kr (fun K hK => ?_); go_simp
   go_at_call 131
   refine (qKn m m n _ _ l yss _ ((hO.rd).below bZ (nl _)) ((hur).below bZ (nl _)) h1 hn hm hm' HLl.out HY.out).mono ?_; rintro e wd1 ⟨vt1, rfl, hod1, hbd1⟩; obtain ⟨ot, ct, rfl⟩ := hod1.shapeN (n := n) (qEM _ _ _ _); have hd1 : Below wr.heap.size wr wd1 := (bY1 hbd1); have hsd1 := hd1.size; obtain ⟨⟨q1_OO_0, q1_OO_1⟩, qf1_OO⟩ := OO.below hd1; obtain ⟨q1_Xr_0, q1_Xr_1⟩ := Xr.below hd1; obtain ⟨q1_Yr_0, q1_Yr_1⟩ := Yr.below hd1; have q1_cx := (((hvr).below hd1)).cell0 (qA5 (show k < xs.length by omega))
   go_wp2_with fail
   clear hHeld; refine oKq hK (by go_keep) fun hHeld => ?_
   clear hK K
   try simp only [Act.put, sL]
   refine qCR (i := 9) rfl kr (fun K hK => ?_); go_simp
   go_at_call 130
   refine (qGx m (at0 xs k) o' n c' _ h1 hn hm Oo Oo Oo).mono ?_; rintro e wd2 ⟨vc2, rfl, hod2, hbd2⟩; obtain ⟨oc, cc, rfl⟩ := hod2.shapeN (n := n) (qFS _ _ _); have hd2 : Below wr.heap.size wr wd2 := (bY2 hbd1 hbd2); have hsd2 := hd2.size; obtain ⟨⟨q2_OO_0, q2_OO_1⟩, qf2_OO⟩ := OO.below hd2; obtain ⟨q2_Xr_0, q2_Xr_1⟩ := Xr.below hd2; obtain ⟨q2_Yr_0, q2_Yr_1⟩ := Yr.below hd2; have q2_cx := (((hvr).below hd2)).cell0 (qA5 (show k < xs.length by omega))
   go_wp2_with fail
   clear hHeld; refine oKq hK (by go_keep) fun hHeld => ?_
   clear hK K
   try simp only [Act.put, sL]
   refine qCR (i := 10) rfl kr (fun K hK => ?_); go_simp
   go_at_call 132
   refine (qJi m m _ _ (qAO m n l yss) (qCd m (at0 xs k) n) _ ((hod1.below (bY1 hbd2))).rd ((hod2.below bZ)).rd (by rw [qEM]; omega) (by rw [qEM]; omega) (by rw [qEM, qFS]) hm Oo HT.out.2 (qON Oo _ _).2).mono ?_; rintro e wd3 ⟨vp3, rfl, hod3, hbd3⟩; rw [qEM] at hod3; obtain ⟨op, cp, rfl⟩ := hod3.shapeN (n := n) (qA9 _ _); have hd3 : Below wr.heap.size wr wd3 := (bY3 hbd1 hbd2 hbd3); have hsd3 := hd3.size; obtain ⟨⟨q3_OO_0, q3_OO_1⟩, qf3_OO⟩ := OO.below hd3; obtain ⟨q3_Xr_0, q3_Xr_1⟩ := Xr.below hd3; obtain ⟨q3_Yr_0, q3_Yr_1⟩ := Yr.below hd3; have q3_cx := (((hvr).below hd3)).cell0 (qA5 (show k < xs.length by omega))
   go_wp2_with fail
   clear hHeld; refine oKq hK (by go_keep) fun hHeld => ?_
   clear hK K
   try simp only [Act.put, sL]
   refine qCR (i := 11) rfl kr (fun K hK => ?_); go_simp
   (try go_wp2_with fail)
   refine hK.out _ _ (nD ·) ?_; clear hK K
   try simp only [Act.put, sL]
   refine qH5 kr ?_ _; have hOn := OO.below hd3
   go_wp2_with fail
   have hgZ : wr.grownBy ((wd3.setCell ⟨w1.heap.size , 0, none⟩ (.int .i64 m)).setCell ⟨w1.heap.size , 1, none⟩ (.slice op n cp)) (some w1.heap.size ) := (qAw (qAw (show wr.grownBy wd3 (some w1.heap.size ) from World.grownBy.mk hd3.os hd3.tape hd3.output hd3.size (fun k hk _ => hd3.block k hk)) _ _) _ _); have hOZ : RB2 ((wd3.setCell ⟨w1.heap.size , 0, none⟩ (.int .i64 m)).setCell ⟨w1.heap.size , 1, none⟩ (.slice op n cp)) w1.heap.size  (.int .i64 m) (.slice op n cp) := RB2.put hOn _ _; have hRZ : OwS ((wd3.setCell ⟨w1.heap.size , 0, none⟩ (.int .i64 m)).setCell ⟨w1.heap.size , 1, none⟩ (.slice op n cp)) wr.heap.size (.slice op n cp) (tri n (fun i j => (atT (qAO m n l yss) i j + atT (qCd m (at0 xs k) n) i j) % m)) := ((hod3.low sz _).low sz _).mono sz; rw [qNu Oo HT.out, ← HS.out] at hRZ; exact ⟨⟨k, op, cp, Oo, by go_num, hRZ.mono Oo, hOZ, hg.trans hgZ⟩, by simp [intOf]⟩
  ·obtain rfl : j = 0 := Oo; rw [List.drop_zero] at hO; obtain ⟨⟨z0, z1⟩, zf⟩ := id OO; obtain ⟨⟨r0, r1⟩, rf⟩ := R3.grown hg (by simp; omega); go_wp2; refine bodyPost_ret (v := .agg #[.int .i64 m, .slice ov n cv]) (by simp [results, Tryz.results64, go_sem, r0, r1]) rfl ⟨_, rfl, ?_, ?_⟩
   ·exact ((hO.low sz _).low sz _).mono sz
   ·(repeat (first | exact bR _ _ | (refine bS ?_ _) | (refine bA ?_ _) | (refine bN ?_ _) | (refine bD ?_) | (refine bT ?_ Br)))

end
end Go.Proofs.YtfpphfjlpgefaaaGreat
