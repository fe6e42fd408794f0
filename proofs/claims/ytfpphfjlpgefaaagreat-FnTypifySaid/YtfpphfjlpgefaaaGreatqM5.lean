/- Lemmas. -/
import Derived.Test.YtfpphfjlpgefaaaGreatqG3
import Derived.StillTailTactics
import Derived.Deep.DeepCutAuto
import Derived.Test.YtfpphfjlpgefaaaGreatqG2
import Derived.Test.YtfpphfjlpgefaaaGreatqM3
import Derived.Test.YtfpphfjlpgefaaaGreatqG1
import Derived.Lib.MinMax
set_option maxHeartbeats 2000000
set_option maxRecDepth 100000
set_option linter.unusedSimpArgs false
set_option linter.unusedVariables false
namespace Go.Proofs.YtfpphfjlpgefaaaGreat
open Go.RowKit

theorem qQC (m : Int) (o : Option Addr) (n c : Nat) (w : World) :
  Calls Tryz.prog 47 #[.int .i64 m, .slice o n c] w fun e w' => e = .returned (.agg #[.int .i64 m, .slice o n c]) ∧ Below w.heap.size w w' := by
 go_enter Tryz.func47, Tryz.ntmps47
 go_wp2
 exact bodyPost_ret (v := .agg #[.int .i64 m, .slice o n c]) (by simp [results, Tryz.results47, go_sem]) rfl ⟨rfl, bZ⟩

theorem qMm (m : Int) (v u : Value) (xs ys : Li) (w : World) (hv : RdI w v xs) (hu : RdI w u ys) (hl : xs.length ≤ ys.length) (hn : xs.length ≤ 1048576) (hm : 2 ≤ m) (hm' : m ≤ 1000000000000)
  (hx : ∀ x ∈ xs, 0 ≤ x ∧ x < m) (hy : ∀ x ∈ ys, 0 ≤ x ∧ x < m) :
  Calls Tryz.prog 95 #[.int .i64 m, v, u] w fun e w' => ∃ v', e = .returned v' ∧ OwI w' w.heap.size v' (qCi m xs.length xs ys) ∧ Below w.heap.size w w' := by
 obtain ⟨o, c, rfl, hmx, -⟩ := id hv
 obtain ⟨o', c', rfl, hmy, -⟩ := id hu
 have hml := hmx.1
 unfold maxLen at hmx hmy
 have m0 : (m == 0) = false := by simp; omega
 have m1 : ¬ m = 0 := Oo
 go_enter Tryz.func95, Tryz.ntmps95
 go_wp2_with fail
 have O1 := OwI.lit w [] (by decide)
 have B1 : Below w.heap.size w (w.alloc (.cells #[] 2)) := bZ
 simp at O1
 generalize w.alloc (.cells #[] 2) = w1 at O1 B1 ⊢
 go_loopw [7, 8] (fun s i wr => ∃ k : Nat, k ≤ xs.length ∧ i = .int .i64 k ∧ OwI wr w.heap.size s (mk k (fun j => (at0 xs j + at0 ys j) % m)) ∧ Below w.heap.size w wr) (fun _ i _ => xs.length - (intOf i).toNat)
 case atStart => exact ⟨0, Nat.zero_le _, rfl, O1, B1⟩
 case round =>
  obtain ⟨k, hk, rfl, hO, hB⟩ := hrel; obtain ⟨ov, cv, rfl⟩ := hO.shapeN (n := k) (qA8 _ _)
  by_cases hlt : k < xs.length
  ·obtain ⟨bx, fx, rfl, -⟩ := hv.cells Oo; obtain ⟨by', fy, rfl, -⟩ := hu.cells Oo; have cx := (hv.below hB).cell0 (qA5 hlt); have cy := (hu.below hB).cell0 (qA5 (show k < ys.length by omega)); have hxk := qAG Oo hx k; have hyk := qAG Oo hy k; have hMod := qA6 (a := at0 xs k + at0 ys k) (show 0 < m by omega); have HS := dd (qCN k (fun j => (at0 xs j + at0 ys j) % m)); have hBs := hB.size; have i0 : (0 : Int) ≤ (k : Int) := Oo; have i1 : (k : Int) < (xs.length : Int) := Oo; have i2 : (k : Int) < (ys.length : Int) := Oo
   go_wp2_with fail
   have e1 : IntKind.i64.wrap (at0 xs k + at0 ys k) = at0 xs k + at0 ys k := IntWalk.i64_in _ Oo; have e2 : (at0 xs k + at0 ys k).tmod m = (at0 xs k + at0 ys k) % m := Int.tmod_eq_emod_of_nonneg Oo
   go_region_held3 (fun w' => w'.cell? ⟨bx, fx + k, none⟩ = some (.int .i64 (at0 xs k)) ∧ w'.cell? ⟨by', fy + k, none⟩ = some (.int .i64 (at0 ys k))) (go_keep)
    ((refine stI wr rfl _ _ rfl w.heap.size (.slice ov k cv) _ rfl hO _ rfl (by rw [qA8]; omega) Oo ?_; intro v' w4 hO3 hb3; have cx2 := (hv.below (hB.trans hb3) (nl _)).cell0 (qA5 hlt); have cy2 := (hu.below (hB.trans hb3) (nl _)).cell0 (qA5 (show k < ys.length by omega))))
   rw [← HS.out] at hO3; go_wp2; exact ⟨⟨k + 1, Oo, by go_num, hO3, hB.trans hb3⟩, by simp [intOf]; omega⟩
  ·obtain rfl : k = xs.length := Oo; go_wp2; go_ret; exact ⟨_, rfl, hO, hB⟩

theorem qFj (m d : Int) (n : Nat) (v u : Value) (xs ys : Li) (w : World) (hd : d = (n : Int) - 1) (hv : RdI w v xs) (hu : RdI w u ys) (h1 : 1 ≤ n) (hn : n ≤ 1048576) (hm : 2 ≤ m) (hm' : m ≤ 3000000000)
  (hx : ∀ x ∈ xs, 0 ≤ x ∧ x < m) (hy : ∀ x ∈ ys, 0 ≤ x ∧ x < m) :
  Calls Tryz.prog 97 #[.int .i64 m, v, u, .int .i64 d] w fun e w' => ∃ v', e = .returned v' ∧ OwI w' w.heap.size v' (qAZ m n xs ys) ∧ Below w.heap.size w w' := by
 subst hd
 obtain ⟨o, c, rfl, hmx, -⟩ := id hv
 obtain ⟨o', c', rfl, hmy, -⟩ := id hu
 unfold maxLen at hmx hmy
 have m0 : (m == 0) = false := by simp; omega
 have m1 : ¬ m = 0 := Oo
 go_enter Tryz.func97, Tryz.ntmps97
 go_wp2_with (at_make; refine mkI _ rfl _ _ rfl _ _ _ n rfl rfl Oo Oo ?_; intro w1 hown hb hs1)
 rw [tmS_0 m _ xs ys] at hown
 have hz : w.heap.size < w1.heap.size := Oo
 clear hs1
 go_loopw [10] (fun i wr => ∃ k : Nat, k ≤ n ∧ i = .int .i64 k ∧ OwI wr w.heap.size (.slice (some ⟨w.heap.size, 0, none⟩) n n) (tmS m n xs ys k 0) ∧ Below w.heap.size w wr) (fun i _ => n - (intOf i).toNat)
 case atStart => exact ⟨0, Nat.zero_le _, rfl, hown, hb⟩
 case round =>
  obtain ⟨k, hk, rfl, hO, hB⟩ := hrel; obtain ⟨wo, rfl⟩ : ∃ wo : World, wo = wr := ⟨_, rfl⟩
  by_cases hlt : k < xs.length ∧ k < n
  ·obtain ⟨hlt, hkn⟩ := hlt; obtain ⟨bx, fx, rfl, -⟩ := hv.cells Oo; have hxk := qAG Oo hx k; have i0 : (0 : Int) ≤ (k : Int) := Oo; have i1 : (k : Int) < (xs.length : Int) := Oo; have i2 : (k : Int) ≤ (n : Int) - 1 := Oo
   go_wp2_with fail
   go_loopw [11] (fun i w2 => ∃ j : Nat, j ≤ n - k ∧ i = .int .i64 j ∧ OwI w2 w.heap.size (.slice (some ⟨w.heap.size, 0, none⟩) n n) (tmS m n xs ys k j) ∧ Below w.heap.size w w2) (fun i _ => n - k - (intOf i).toNat)
   case atStart => exact ⟨0, Nat.zero_le _, rfl, hO, hB⟩
   case round =>
    obtain ⟨j, hj, rfl, hO2, hB2⟩ := hrel; have cx := (hv.below hB2).cell0 (qA5 hlt)
    by_cases hjl : j < ys.length ∧ k + j < n ∧ ¬ at0 xs k = 0
    ·obtain ⟨hjl, hkj, hne⟩ := hjl; have hne' : (at0 xs k != 0) = true := by simpa using hne
     obtain ⟨by', fy, rfl, -⟩ := hu.cells Oo; have cy := (hu.below hB2).cell0 (qA5 hjl); have hyk := qAG Oo hy j; have hc0 := hO2.cell (k := k + j) (qAy hkj); have hf0 := hO2.fz (k + j); obtain ⟨hM0, hM1⟩ := qCY hxk.1 hyk.1 hxk.2 hyk.2 hm'; have hC := qA6 (a := qB1 (at0 xs) (at0 ys) k j (k + j)) (show 0 < m by omega); have hMod := qA6 (a := qB1 (at0 xs) (at0 ys) k j (k + j) % m + at0 xs k * at0 ys j) (show 0 < m by omega); have Hn := dd hO2; clear hO2; have j0 : (0 : Int) ≤ (j : Int) := Oo; have j1 : (j : Int) < (ys.length : Int) := Oo; have j2 : (0 : Int) ≤ (k : Int) + (j : Int) := Oo; have j3 : (k : Int) + (j : Int) < (n : Int) := Oo; have j5 : (k : Int) + (j : Int) ≤ (n : Int) - 1 := Oo; have j4 : ((k : Int) + (j : Int)).toNat = k + j := Oo; have Hne := dd hne; clear hne
     go_wp2_with fail
     have e0 : IntKind.i64.wrap ((k : Int) + (j : Int)) = (k : Int) + (j : Int) := IntWalk.i64_in _ Oo; have e3 : IntKind.i64.wrap (at0 xs k * at0 ys j) = at0 xs k * at0 ys j := IntWalk.i64_in _ Oo; have e1 : IntKind.i64.wrap (qB1 (at0 xs) (at0 ys) k j (k + j) % m + at0 xs k * at0 ys j) = qB1 (at0 xs) (at0 ys) k j (k + j) % m + at0 xs k * at0 ys j := IntWalk.i64_in _ Oo; have e2 : (qB1 (at0 xs) (at0 ys) k j (k + j) % m + at0 xs k * at0 ys j).tmod m = (qB1 (at0 xs) (at0 ys) k j (k + j) % m + at0 xs k * at0 ys j) % m := Int.tmod_eq_emod_of_nonneg Oo
     go_still_tail 23, kr
     change wpList _ _ _ _ _ wr.drew
     go_wp2; have h2 := OwI.put Hn.out (k + j) ((qB1 (at0 xs) (at0 ys) k j (k + j) + at0 xs k * at0 ys j) % m); rw [qLJ rfl rfl] at h2; exact ⟨⟨j + 1, Oo, by go_num, h2, (qAL hB2 (nl _) _).drew⟩, by simp [intOf]; omega⟩
    ·have hrow : tmS m n xs ys k j = tmS m n xs ys (k + 1) 0 := qL8 (by
      by_cases h1 : j < ys.length
      ·by_cases h2 : k + j < n
       ·exact .inr (.inr (Classical.byContradiction fun h3 => hjl ⟨h1, h2, h3⟩))
       ·exact .inl Oo
      ·exact .inr (.inl Oo))
     rw [hrow] at hO2; clear hrow; have i3 : ((k : Int) + (j : Int)) ≤ 2097152 := Oo
     by_cases h1 : j < ys.length
     ·by_cases h2 : k + j < n
      ·have h3 : at0 xs k = 0 := Classical.byContradiction fun h3 => hjl ⟨h1, h2, h3⟩
       have h3' : (at0 xs k != 0) = false := by simpa using h3
       have j5 : (k : Int) + (j : Int) ≤ (n : Int) - 1 := Oo; clear hjl h3; go_wp2; exact ⟨⟨k + 1, Oo, by go_num, hO2, hB2⟩, by simp [intOf]; omega⟩
      ·have j5 : ¬ (k : Int) + (j : Int) ≤ (n : Int) - 1 := Oo; clear hjl; go_wp2; exact ⟨⟨k + 1, Oo, by go_num, hO2, hB2⟩, by simp [intOf]; omega⟩
     ·clear hjl; go_wp2; exact ⟨⟨k + 1, Oo, by go_num, hO2, hB2⟩, by simp [intOf]; omega⟩
  ·rw [qLj Oo] at hO
   by_cases h1 : k < xs.length
   ·have h2 : ¬ (k : Int) ≤ (n : Int) - 1 := Oo; clear hlt; go_wp2; go_ret; exact ⟨_, rfl, hO, hB⟩
   ·clear hlt; go_wp2; go_ret; exact ⟨_, rfl, hO, hB⟩


theorem qLz (ad : Addr) (n c : Nat) (ys : Li) (w : World) (hr : RdI w (.slice (some ad) n c) ys) (hn : ys.length ≤ 1048576) :
  Calls Tryz.prog 189 #[.slice (some ad) n c] w fun e w' => ∃ v', e = .returned v' ∧ OwI w' w.heap.size v' ys ∧ Below w.heap.size w w' := by
 have hr' := hr.below (w' := w.alloc (.cells #[] 2)) (bZ) (nl _)
 go_enter Tryz.func189, Tryz.ntmps189
 go_wp2_with (at_builtin; refine apR _ rfl _ _ rfl w.heap.size _ [] rfl (OwI.lit w [] (Nat.zero_le _)) ad n c ys rfl hr' (by simp; omega) (by simp) ?_; intro o1 c1 w1 how hgr hb; clear hgr)
 go_ret
 exact ⟨_, rfl, how, by refine Below.trans ?_ hb; (repeat (first | exact bR _ _ | (refine bS ?_ _) | (refine bA ?_ _) | (refine bN ?_ _) | (refine bD ?_)))⟩
theorem qHx (ad : Addr) (n c : Nat) (ys : Li) (w : World) (hr : RdI w (.slice (some ad) n c) ys) (hn : ys.length ≤ 1048576) :
  Calls Tryz.prog 139 #[.slice (some ad) n c] w fun e w' => ∃ v', e = .returned v' ∧ OwI w' w.heap.size v' ys ∧ Below w.heap.size w w' := by
 have hr' := hr.below (w' := w.alloc (.cells #[] 2)) (bZ) (nl _)
 go_enter Tryz.func139, Tryz.ntmps139
 go_wp2_with (at_builtin; refine apR _ rfl _ _ rfl w.heap.size _ [] rfl (OwI.lit w [] (Nat.zero_le _)) ad n c ys rfl hr' (by simp; omega) (by simp) ?_; intro o1 c1 w1 how hgr hb; clear hgr)
 go_ret
 exact ⟨_, rfl, how, by refine Below.trans ?_ hb; (repeat (first | exact bR _ _ | (refine bS ?_ _) | (refine bA ?_ _) | (refine bN ?_ _) | (refine bD ?_)))⟩


def LDr (k : Nat) (w w' : World) (B n b : Nat) (e : Ending) : Prop := ∃ v xs, e = .returned v ∧ OwI w' w.heap.size v xs ∧ xs.length = k ∧ DW B n b w w'

theorem qPJ (B n b : Nat) (m : Int) (K : Nat) (w : World) (hs : Src w B n b) (hK : K ≤ 1000) :
  Calls Tryz.prog 185 #[.pointer (some ⟨b, 0, none⟩), .int .i64 m, .int .i64 K] w fun e w' => LDr K w w' B n b e := by
 have hlt := hs.lt
 have hmx : max m 1 ≠ 0 := Oo
 have hmb : (max m 1 == 0) = false := by simp; omega
 go_enter Tryz.func185, Tryz.ntmps185
 go_wp2_with fail
 have hO0 : OwI (w.alloc (.cells #[] 2)) w.heap.size (.slice (some ⟨w.heap.size, 0, none⟩) 0 0) [] := OwI.lit w [] (Nat.zero_le _)
 have hd0 := (DW.refl hs).alloc (.cells #[] 2)
 generalize w.alloc (.cells #[] 2) = w0 at hO0 hd0 ⊢
 go_loopw [2, 7] (fun i v wr => ∃ (j : Nat) (xs : Li) (o : Option Addr) (c : Nat), (j ≤ K ∧ j + xs.length = K) ∧ i = .int .i64 j ∧ v = .slice o xs.length c ∧ OwI wr w.heap.size (.slice o xs.length c) xs ∧ DW B n b w wr) (fun i _ _ => (intOf i).toNat)
 case atStart => exact ⟨K, [], _, 0, ⟨Nat.le_refl _, rfl⟩, by go_num, rfl, hO0, hd0⟩
 case round =>
  clear hO0 hd0; obtain ⟨j, xs, o, c, ⟨hj, hjx⟩, rfl, rfl, hO, hD⟩ := hrel; have HJ := dd hjx; clear hjx
  by_cases hj0 : 0 < j
  ·have i1 : (0 : Int) < (j : Int) := Oo
   go_wp2_with fail
   have hd0 : Below wr.heap.size wr wr.drew := (Below.refl _ _).drew; have hsd0 := hd0.size; refine qAv (S := fun w' => True) [15] kr ?_; have hHeld : (fun w' : World => True) wr.drew := by trivial
   refine' tJ 0 hHeld ?_; refine' tJ 1 hHeld ?_; refine' tJ 2 hHeld ?_; refine' tJ 3 hHeld ?_; refine' tJ 4 hHeld ?_; refine' tJ 5 hHeld ?_; refine' tJ 6 hHeld ?_; refine' tJ 8 hHeld ?_; refine' tJ 9 hHeld ?_; refine qA1 (i := 7) rfl kr (fun K hK => ?_); go_simp
   go_at_call 38
   refine (qAz B n b m _ hD.drew.src).mono ?_; rintro e w1 ⟨y, rfl, y0, y1, y2, hd1, hz1⟩; have hO1 := (show OwI wr.drew _ _ _ from hO).dw hd1 hlt; have hD1 := hD.drew.trans hd1; clear y1 y2 hd1 hz1
   go_wp2_with fail
   refine hK.out _ _ (fun _ => hHeld) ?_; clear hK K
   try simp only [Act.put, sL]
   refine qA1 (i := 10) rfl kr (fun K hK => ?_); go_simp
   go_at_call 38
   refine (qAz B n b m w1 hD1.src).mono ?_; rintro e w2 ⟨z, rfl, z0, z1, z2, hd2, hz2⟩; have hO2 := hO1.dw hd2 hlt; have hD2 := hD1.trans hd2; clear z1 z2 hd2 hz2
   go_wp2_with fail
   refine hK.out _ _ (fun _ => hHeld) ?_; clear hK K
   try simp only [Act.put, sL]
   refine qA1 (i := 11) rfl kr (fun K hK => ?_); go_simp
   (try go_wp2_with fail)
   refine hK.out _ _ (fun _ => hHeld) ?_; clear hK K
   try simp only [Act.put, sL]
   refine qA1 (i := 12) rfl kr (fun K hK => ?_); go_simp
   go_at_call 74
   refine (qCw B n b _ _ [0, _, y, z] _ w2 hD2.src rfl rfl rfl (by simp) (by simp)).mono ?_; rintro e w3 ⟨t, rfl, t0, hd3, hz3⟩; have hO3 := hO2.dw hd3 hlt; have hD3 := hD2.trans hd3; clear t0 hd3 hz3
   go_wp2_with fail
   refine hK.out _ _ (fun _ => hHeld) ?_; clear hK K
   try simp only [Act.put, sL]
   refine qA1 (i := 13) rfl kr (fun K hK => ?_); go_simp
   (try go_wp2_with fail)
   refine hK.out _ _ (fun _ => hHeld) ?_; clear hK K
   try simp only [Act.put, sL]
   refine qA1 (i := 14) rfl kr (fun K hK => ?_); have hOl := hO3.lt; have hD4 := hD3.alloc (.cells #[.int .i64 t] 2); have hz4 := hD3.size; refine stR _ rfl _ _ rfl w.heap.size (.slice o xs.length c) xs rfl (hO3.alloc _) ⟨w3.heap.size, 0, none⟩ 1 1 [t] rfl (OwI.lit w3 [t] (by simp [maxLen])).rd (by have := HJ.out; simp; omega) (by simp; omega) ?_; intro o4 c4 w4 hO4 hg4 hb4; have hD4 := hD4.grown hg4 (fun k hk => (hOl _ hk).1); clear hO1 hO2 hO3 hD1 hD2 hD3 hg4 hb4 hOl; refine hK.out _ _ (fun _ => hHeld) ?_; clear hK K
   try simp only [Act.put, sL]
   refine qA1 (i := 15) rfl kr (fun K hK => ?_); go_simp
   (try go_wp2_with fail)
   refine hK.out _ _ (nD ·) ?_; clear hK K
   try simp only [Act.put, sL]
   refine qAT kr ?_ _
   go_wp2_with fail
   go_wp2; exact ⟨⟨j - 1, xs ++ [t], o4, c4, ⟨Oo, by have := HJ.out; simp; omega⟩, by go_num, by simp, hO4, hD4⟩, by simp [intOf]; omega⟩
  ·obtain rfl : j = 0 := Oo; go_wp2; go_ret; exact ⟨_, xs, rfl, hO, by have := HJ.out; omega, hD⟩
theorem qJU (B n b : Nat) (m k : Int) (K : Nat) (w : World) (hs : Src w B n b) (hK : K ≤ 1000) (hk : k = K) :
  Calls Tryz.prog 185 #[.pointer (some ⟨b, 0, none⟩), .int .i64 m, .int .i64 k] w fun e w' => LDr K w w' B n b e := by subst hk; exact qPJ B n b m K w hs hK

theorem qGP (m : Int) (o : Option Addr) (n c : Nat) (w : World) :
  Calls Tryz.prog 58 #[.int .i64 m, .slice o n c] w fun e w' => e = .returned (.agg #[.int .i64 m, .slice o n c]) ∧ Below w.heap.size w w' := by
 go_enter Tryz.func58, Tryz.ntmps58
 go_wp2
 exact bodyPost_ret (v := .agg #[.int .i64 m, .slice o n c]) (by simp [results, Tryz.results58, go_sem]) rfl ⟨rfl, bZ⟩

theorem qCL (d : Int) (n : Nat) (w : World) (hd : d = (n : Int) - 1) (hn : n ≤ 1000) :
  Calls Tryz.prog 157 #[.int .i64 d] w fun e w' => ∃ v', e = .returned v' ∧ OwS w' w.heap.size v' (qAb n) ∧ Below w.heap.size w w' := by
 subst hd
 go_enter Tryz.func157, Tryz.ntmps157
 go_wp2_with fail
 have O1 := OwS.lit0 w
 have B1 : Below w.heap.size w (w.alloc (.cells #[] 28)) := bZ
 generalize w.alloc (.cells #[] 28) = w1 at O1 B1 ⊢
 go_loopw [3, 4] (fun s i wr => ∃ (k : Nat) (ov : Option Addr) (cv : Nat), k ≤ n ∧ i = .int .i64 k ∧ s = .slice ov k cv ∧ OwS wr w.heap.size (.slice ov k cv) (qD0 n k) ∧ Below w.heap.size w wr) (fun _ i _ => n - (intOf i).toNat)
 case atStart => exact ⟨0, _, _, Nat.zero_le _, rfl, rfl, O1, B1⟩
 case round =>
  obtain ⟨k, ov, cv, hk, rfl, rfl, hO, hB⟩ := hrel
  by_cases hlt : k < n
  ·have i1 : (k : Int) ≤ (n : Int) - 1 := Oo; have hBs := hB.size; have HS := dd (qJI n k); have HLn := dd (qLq n k); generalize qD0 n k = l at hO HS HLn
   go_wp2_with (first
    | (at_make; go_loud (refine mkI _ rfl _ _ rfl _ _ _ (n - k) rfl rfl Oo Oo ?_; intro w2 how hb2 hs2; have hz2 : wr.heap.size < w2.heap.size := Oo; clear hs2))
    | (at_builtin; obtain ⟨W, hW⟩ : ∃ W : World, W = w2.alloc (.cells #[.slice (some ⟨wr.heap.size, 0, none⟩) (n - k) (n - k)] 28) := ⟨_, rfl⟩; have hWs : W.heap.size = w2.heap.size + 1 := (by rw [hW]; simp); have hT : OwSR w.heap.size wr.heap.size W (.slice ov k cv) l := (by rw [hW]; exact hO.toR.stay (fun j _ hj => (Below.heap_alloc _ _ j Oo).trans (hb2.block j hj))); have hU : OwI W wr.heap.size (.slice (some ⟨wr.heap.size, 0, none⟩) (n - k) (n - k)) (List.replicate (n - k) 0) := (by rw [hW]; exact how.alloc _); have hC : W.cell? ⟨w2.heap.size, 0, none⟩ = some (.slice (some ⟨wr.heap.size, 0, none⟩) (n - k) (n - k)) := (by rw [hW]; simp); have B3 : Below w.heap.size w W := (by rw [hW]; exact hB.trans ((((Below.refl wr.heap.size wr).trans hb2).alloc (Nat.le_of_lt hz2) _).mono hBs)); rw [← hW]; have HW := dd hW; clear hW; go_loud (refine apT W rfl _ _ rfl w.heap.size wr.heap.size (.slice ov k cv) l rfl hT Oo hBs _ _ w2.heap.size rfl hC hU (by rw [HLn.out]; omega) ?_; intro g cap w3 hO3 hgr hb3; clear hgr; have B4 := B3.trans hb3)))
   rw [HLn.out, ← HS.out] at hO3; exact ⟨⟨k + 1, _, _, Oo, by go_num, by rw [HLn.out], hO3, B4⟩, by simp [intOf]; omega⟩
  ·obtain rfl : k = n := Oo; have i1 : ¬ (k : Int) ≤ (k : Int) - 1 := Oo; rw [qKa] at hO; go_wp2; go_ret; exact ⟨_, rfl, hO, hB⟩

theorem qGh (m : Int) (v u : Value) (xss yss : Tb) (w : World) (hv : RdT w v xss) (hu : RdT w u yss) (hm : 2 ≤ m) (hm' : m ≤ 1000000000000) (hn : xss.length ≤ 1000) (hl : yss.length = xss.length)
  (hx : ∀ i (hi : i < xss.length), xss[i].length = xss.length - i ∧ ∀ x ∈ xss[i], 0 ≤ x ∧ x < m) (hy : ∀ i (hi : i < yss.length), yss[i].length = yss.length - i ∧ ∀ x ∈ yss[i], 0 ≤ x ∧ x < m) :
  Calls Tryz.prog 174 #[.int .i64 m, v, u] w fun e w' => ∃ v', e = .returned v' ∧ OwS w' w.heap.size v' (qAr m xss.length xss yss) ∧ Below w.heap.size w w' := by
 obtain ⟨o, c, rfl, hmx, -⟩ := id hv
 obtain ⟨o', c', rfl, hmy, -⟩ := id hu
 unfold maxLen at hmx hmy
 have HL := dd hl
 have HX := dd hx
 have HY := dd hy
 clear hl hx hy
 go_enter Tryz.func174, Tryz.ntmps174
 go_wp2_with fail
 have O1 := OwS.lit0 w
 have B1 : Below w.heap.size w (w.alloc (.cells #[] 28)) := bZ
 generalize w.alloc (.cells #[] 28) = w1 at O1 B1 ⊢
 go_loopw [7, 8] (fun s i wr => ∃ (k : Nat) (ov : Option Addr) (cv : Nat), k ≤ xss.length ∧ i = .int .i64 k ∧ s = .slice ov k cv ∧ OwS wr w.heap.size (.slice ov k cv) ((List.range k).map (fun i => mk (xss.length - i) ((fun i j => (atT xss i j + atT yss i j) % m) i))) ∧ Below w.heap.size w wr) (fun _ i _ => xss.length - (intOf i).toNat)
 case atStart => exact ⟨0, _, _, Nat.zero_le _, rfl, rfl, O1, B1⟩
 case round =>
  obtain ⟨k, ov, cv, hk, rfl, rfl, hO, hB⟩ := hrel
  by_cases hlt : k < xss.length
  ·have hly : k < yss.length := by have := HL.out; omega
   have hxl := (HX.out k hlt).1; have hyl := (HY.out k hly).1
   have HE := dd (show qCi m xss[k].length xss[k] yss[k] = mk (xss.length - k) (fun j => (atT xss k j + atT yss k j) % m) by
    unfold qCi; rw [hxl]; exact qAh fun j _ => by rw [qDI hlt, qDI hly])
   have hrl : xss[k].length ≤ yss[k].length := by rw [hxl, hyl, HL.out]; exact Nat.le_refl _
   have hrn : xss[k].length ≤ 1000 := Oo; have HEl := dd (qHa m xss[k].length xss[k] yss[k]); clear hxl hyl; obtain ⟨bx, fx, rfl, -⟩ := hv.rows Oo; obtain ⟨by', fy, rfl, -⟩ := hu.rows Oo; obtain ⟨o1, c1, cx0, rx0⟩ := hv.row (show xss[k]? = some xss[k] by simp [hlt]); obtain ⟨o2, c2, cy0, ry0⟩ := hu.row (show yss[k]? = some yss[k] by simp [hly]); have cx := qA0 hB (nl _) cx0; have cy := qA0 hB (nl _) cy0; have rx := rx0.below hB; have ry := ry0.below hB; have hBs := hB.size; have hclx := qBH cx; have hcly := qBH cy; have HS := dd (qGe xss.length k (fun i j => (atT xss i j + atT yss i j) % m)); have HLn := dd (show ((List.range k).map (fun i => mk (xss.length - i) ((fun i j => (atT xss i j + atT yss i j) % m) i))).length = k by simp); generalize (List.range k).map (fun i => mk (xss.length - i) ((fun i j => (atT xss i j + atT yss i j) % m) i)) = l at hO HS HLn; have i0 : (0 : Int) ≤ (k : Int) := Oo; have i1 : (k : Int) < (xss.length : Int) := Oo; have i2 : (k : Int) < (yss.length : Int) := Oo
   go_wp2_with fail
   go_region_held3 (fun w' => w'.cell? ⟨bx, fx + k, none⟩ = some (.slice o1 xss[k].length c1) ∧ w'.cell? ⟨by', fy + k, none⟩ = some (.slice o2 yss[k].length c2)) (go_keep)
    (first
     | (go_at_call 95; refine (qMm m _ _ xss[k] yss[k] _ (rx.below (Below.refl _ _).drew (nl _)) (ry.below (Below.refl _ _).drew (nl _)) hrl Oo hm hm' (HX.out k hlt).2 (HY.out k hly).2).mono ?_; rintro e w2 ⟨va, rfl, how, hb2⟩; obtain ⟨oa, ca, rfl⟩ := how.shapeN (n := xss[k].length) HEl.out; have hb2' : Below wr.heap.size wr w2 := ((Below.refl wr.heap.size wr).drew).trans hb2; have how' : OwI w2 wr.heap.size (.slice oa xss[k].length ca) (qCi m xss[k].length xss[k] yss[k]) := how; have hz2 := hb2'.size; have cx2 := qA0 hb2' (nl _) cx; have cy2 := qA0 hb2' (nl _) cy)
     | (have hq2 := hz2; (obtain ⟨W, hW⟩ : ∃ W : World, W = w2.alloc (.cells #[.slice oa xss[k].length ca] 28) := ⟨_, rfl⟩); have hWs : W.heap.size = w2.heap.size + 1 := (by rw [hW]; simp); have hT : OwSR w.heap.size wr.heap.size W (.slice ov k cv) l := (by rw [hW]; exact hO.toR.stay (fun j _ hj => (Below.heap_alloc _ _ j Oo).trans (hb2'.block j hj))); have hU : OwI W wr.heap.size (.slice oa xss[k].length ca) (qCi m xss[k].length xss[k] yss[k]) := (by rw [hW]; exact how'.alloc _); have hC : W.cell? ⟨w2.heap.size, 0, none⟩ = some (.slice oa xss[k].length ca) := (by rw [hW]; simp); have B3 : Below w.heap.size w W := (by rw [hW]; exact hB.trans ((((Below.refl wr.heap.size wr).trans hb2').alloc hz2 _).mono hBs)); rw [← hW]; have HW := dd hW; clear hW; refine stT W rfl _ _ rfl w.heap.size wr.heap.size (.slice ov k cv) l rfl hT Oo hBs _ _ w2.heap.size rfl hC hU (by rw [HLn.out]; omega) ?_; intro g cap w3 hO3 hgr hb3; clear hgr; have B4 := B3.trans hb3; have cx3 := qA0 B4 (nl _) cx0; have cy3 := qA0 B4 (nl _) cy0)
     | fail)
   rw [HE.out, HLn.out, ← HS.out] at hO3; go_wp2; exact ⟨⟨k + 1, _, _, Oo, by go_num, by rw [HLn.out], hO3, B4⟩, by simp [intOf]; omega⟩
  ·obtain rfl : k = xss.length := Oo; go_wp2; go_ret; exact ⟨_, rfl, hO, hB⟩


def Stp (n : Nat) (xss : Tb) : Prop := xss.length = n ∧ ∀ k row, xss[k]? = some row → row.length = n - k
theorem OwS.dw {B n b : Nat} {w w' : World} {C : Nat} {v : Value} {xss : Tb} (h : OwS w C v xss) (hd : DW B n b w w') (hne : b < C) : OwS w' C v xss := by
 have h1 := h.toR
 by_cases hC : C ≤ w.heap.size
 ·exact (h1.stay (fun j hj1 hj2 => hd.chg.block j hj2 (.inr Oo))).ow
 ·exact (h1.stay (fun j hj1 hj2 => Oo)).ow


theorem RdT.take {w : World} {ad : Addr} {n c : Nat} {xss : Tb} (h : RdT w (.slice (some ad) n c) xss) (k : Nat) (hk : k ≤ xss.length) : RdT w (.slice (some ad) k c) (xss.take k) := by
 obtain ⟨o, c', heq, hm, hc⟩ := h
 obtain ⟨rfl, -, rfl⟩ : some ad = o ∧ n = xss.length ∧ c = c' := by simpa using heq
 have hl : (xss.take k).length = k := by rw [List.length_take]; omega
 refine ⟨some ad, c, by rw [hl], ⟨Oo, Oo, fun e => by cases e⟩, fun j row hj => ?_⟩
 rw [List.getElem?_take] at hj
 split at hj
 ·exact hc j row hj
 ·cases hj
theorem RdT.tail {w : World} {b off n c : Nat} {xss : Tb} (h : RdT w (.slice (some ⟨b, off, none⟩) n c) xss) (k : Nat) (hk : k = xss.length - 1) : RdT w (.slice (some ⟨b, off + 1, none⟩) k (c - 1)) (xss.drop 1) := by
 obtain ⟨o, c', heq, hm, hc⟩ := h
 obtain ⟨rfl, -, rfl⟩ : some ⟨b, off, none⟩ = o ∧ n = xss.length ∧ c = c' := by simpa using heq
 subst hk
 refine ⟨some ⟨b, off + 1, none⟩, c - 1, by rw [List.length_drop], ⟨by rw [List.length_drop]; omega, by rw [List.length_drop]; omega, fun e => by cases e⟩, fun j row hj => ?_⟩
 rw [List.getElem?_drop] at hj
 obtain ⟨b', off', u, e, hcell, hr⟩ := hc (1 + j) row hj
 obtain ⟨rfl, rfl⟩ : b = b' ∧ off = off' := by simpa using e
 exact ⟨b, off + 1, u, rfl, by rw [Nat.add_assoc]; exact hcell, hr⟩
theorem OwSU.putS {us : List Value} {lo hi : Nat} {u : World} {v : Value} {xss : Tb} (h : OwSU us lo hi u v xss) {b : Nat} (hb : b < lo ∨ hi ≤ b) (k : Nat) (x : Value) : OwSU us lo hi (u.setCell ⟨b, k, none⟩ x) v xss :=
 h.stay (fun j h1 h2 => heap_setCell_other u ⟨b, k, none⟩ j x (fun e => by simp at e; omega))
theorem OwSU.dwS {us : List Value} {lo hi : Nat} {B n b : Nat} {w w' : World} {v : Value} {xss : Tb} (h : OwSU us lo hi w v xss) (hd : DW B n b w w') (h1 : b < lo) (h2 : hi ≤ w.heap.size) : OwSU us lo hi w' v xss :=
 h.stay (fun j h3 h4 => hd.chg.block j Oo (.inr Oo))
theorem Rds.imp {lo hi : Nat} {w : World} {R S : World → Prop} (h : Rds lo hi w R) (e : ∀ u, R u → S u) : Rds lo hi w S := ⟨h.1, fun u hu => e u (h.2 u hu)⟩
end Go.Proofs.YtfpphfjlpgefaaaGreat
