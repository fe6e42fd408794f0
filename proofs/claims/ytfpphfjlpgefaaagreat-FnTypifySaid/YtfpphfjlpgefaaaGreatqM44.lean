/- Lemmas. -/
import Derived.Test.YtfpphfjlpgefaaaGreatqM43
import Derived.Test.YtfpphfjlpgefaaaGreatqG17
import Derived.Test.YtfpphfjlpgefaaaGreatqM14
import Derived.Test.YtfpphfjlpgefaaaGreatqSerC
import Derived.Test.YtfpphfjlpgefaaaGreatqM22
import Derived.Test.YtfpphfjlpgefaaaGreatqM38
import Derived.Test.YtfpphfjlpgefaaaGreatqM27
import Derived.Test.YtfpphfjlpgefaaaGreatqM6
import Derived.Test.YtfpphfjlpgefaaaGreatqG13
import Derived.Test.YtfpphfjlpgefaaaGreatqSRev
set_option maxHeartbeats 4000000
set_option maxRecDepth 100000
set_option linter.unusedSimpArgs false
set_option linter.unusedVariables false
namespace Go.Proofs.YtfpphfjlpgefaaaGreat
open Go.RowKit

theorem qLW {m : Int} (hm : 2 ≤ m) : (1 : Int).tmod m = 1 := by
 rw [Int.tmod_eq_emod_of_nonneg Oo]; exact Int.emod_eq_of_lt Oo Oo
theorem qEn {m x : Int} (hm : 2 ≤ m) (hx : 0 ≤ x) : 0 ≤ x.tmod m ∧ x.tmod m < m := by
 rw [Int.tmod_eq_emod_of_nonneg hx]; exact ⟨Int.emod_nonneg _ Oo, Int.emod_lt_of_pos _ Oo⟩

theorem qNV (m : Int) (D : Nat) (c : Int) (w : World) (hD : 1 ≤ D) (hD' : D ≤ 100) (hm : 2 ≤ m) (hm' : m ≤ 10000) (hc0 : 0 ≤ c) (hc1 : c < m) :
  Calls Tryz.prog 196 #[.int .i64 m, .int .i64 D, .int .i64 c] w fun e w' => TEnd m (D + 1) w w' e := by
 have m0 : (m == 0) = false := by simp; omega
 have m1 : ¬ m = 0 := Oo
 have h1m := qLW hm
 go_enter Tryz.func196, Tryz.ntmps196
 go_wp2_with fail
 refine (qCL _ (D + 1) _ Oo Oo).mono ?_
 rintro e w1 ⟨v1, rfl, hO, hb⟩
 have hT : TabP m (D + 1) w.heap.size w1.heap.size w1 v1 := ⟨_, hO.toR, qFH Oo _⟩
 clear hO
 obtain ⟨g, c1, rfl, hg1, hg2⟩ := hT.rows Oo
 go_wp2_with fail
 go_loopw [8, 9] (fun p i wr => ∃ (k : Nat) (x : Int), 2 * k ≤ D + 1 ∧ i = .int .i64 k ∧ p = .int .i64 x ∧ (0 ≤ x ∧ x < m) ∧ TabP m (D + 1) w.heap.size w1.heap.size wr (.slice (some ⟨g, 0, none⟩) (D + 1) c1) ∧ Below w.heap.size w wr) (fun _ i _ => D + 2 - 2 * (intOf i).toNat)
 case atStart => exact ⟨0, 1, Oo, rfl, rfl, Oo, hT, hb⟩
 case round =>
  obtain ⟨k, x, hk, rfl, rfl, ⟨x0, x1⟩, hT, hB⟩ := hrel
  by_cases hlt : 2 * k + 1 ≤ D
  ·obtain ⟨r1, cr1, y1, l1, l1', n1, a1, b1, f1, -, s1⟩ := hT.at (i := k + 1) (j := k) (D - k) Oo Oo; have hT1 := s1 x x0 x1; obtain ⟨r2, cr2, y2, l2, l2', n2, a2, b2, f2, -, s2⟩ := hT1.at (i := k) (j := k + 1) (D + 1 - k) Oo Oo; have hT2 := s2 x x0 x1; have B1 := qAL (qAL hB l1 (.int .i64 x) (k := k)) l2 (.int .i64 x) (k := k + 1); clear hT hT1 s1 s2; have i0 : 2 * (k : Int) + 1 ≤ (D : Int) := Oo; have i1 : (k : Int) + 1 < ((D + 1 : Nat) : Int) := Oo; have i1' : (k : Int) + 1 < (D : Int) + 1 := Oo; have i2 : (k : Int) < ((D - k : Nat) : Int) := Oo; have i3 : (k : Int) < ((D + 1 : Nat) : Int) := Oo; have i3' : (k : Int) < (D : Int) + 1 := Oo; have i4 : (k : Int) + 1 < ((D + 1 - k : Nat) : Int) := Oo; have i5 : (0 : Int) ≤ (k : Int) + 1 := Oo; have i6 : (0 : Int) ≤ (k : Int) := Oo; have i7 : ((k : Int) + 1).toNat = k + 1 := Oo; have e1 : IntKind.i64.wrap (2 * (k : Int)) = 2 * (k : Int) := IntWalk.i64_in _ Oo; have e2 : IntKind.i64.wrap (2 * (k : Int) + 1) = 2 * (k : Int) + 1 := IntWalk.i64_in _ Oo; have e3 : IntKind.i64.wrap (m - c) = m - c := IntWalk.i64_in _ Oo; have hp0 : 0 ≤ x * (m - c) := Int.mul_nonneg x0 Oo; have hp1 : x * (m - c) ≤ 10000 * 10000 := Int.mul_le_mul Oo Oo Oo Oo; have e4 : IntKind.i64.wrap (x * (m - c)) = x * (m - c) := IntWalk.i64_in _ Oo; obtain ⟨q, hq⟩ : ∃ q, (x * (m - c)).tmod m = q := ⟨_, rfl⟩; have hq2 := qEn hm hp0; rw [hq] at hq2; have e5 : IntKind.i64.wrap q = q := IntWalk.i64_in _ Oo; clear hp0 hp1; go_wp2; exact ⟨⟨k + 1, q, Oo, by go_num, rfl, hq2, hT2, B1⟩, by simp [intOf]; omega⟩
  ·obtain ⟨t, h1', h2'⟩ := hT; have i0 : ¬ 2 * (k : Int) + 1 ≤ (D : Int) := Oo; have e1 : IntKind.i64.wrap (2 * (k : Int)) = 2 * (k : Int) := IntWalk.i64_in _ Oo; have e2 : IntKind.i64.wrap (2 * (k : Int) + 1) = 2 * (k : Int) + 1 := IntWalk.i64_in _ Oo; go_wp2; go_ret; exact ⟨_, t, rfl, h1'.ow, h2', hB⟩

theorem qQJ (m : Int) (D : Nat) (a e0 : Int) (w : World) (hD : 1 ≤ D) (hD' : D ≤ 100) (hm : 2 ≤ m) (hm' : m ≤ 10000) (ha0 : 0 ≤ a) (ha1 : a < m) (he0 : 0 ≤ e0) (he1 : e0 < m) :
  Calls Tryz.prog 205 #[.int .i64 m, .int .i64 D, .int .i64 a, .int .i64 e0] w fun e w' => REnd m (D + 1) w w' e := by
 have m0 : (m == 0) = false := by simp; omega
 have m1 : ¬ m = 0 := Oo
 have eD : IntKind.i64.wrap ((D : Int) + 1) = (D : Int) + 1 := IntWalk.i64_in _ Oo
 go_enter Tryz.func205, Tryz.ntmps205
 go_wp2_with fail
 go_cut [9, 10] from 14 to 18 (fun sh so u => ∃ (wz : World) (g : Nat), wz = u ∧ sh = .int .i64 (qAI m 2) ∧ so = .slice (some ⟨g, 0, none⟩) (D + 1) (D + 1) ∧ OwI u w.heap.size (.slice (some ⟨g, 0, none⟩) (D + 1) (D + 1)) (List.replicate (D + 1) 0) ∧ Below w.heap.size w u)
 case first =>
  have hd0 : Below w.heap.size w w.drew := (Below.refl _ _).drew; refine qAv (S := fun w' => True) [] kr ?_; have hHeld : (fun w' : World => True) w.drew := by trivial
  refine' tJ 0 hHeld ?_; refine' tJ 2 hHeld ?_; refine' tJ 3 hHeld ?_; refine qDU (i := 1) (j := 4) rfl rfl kr (fun K hK => ?_) (fun K hK => ?_)
  ·skip
   go_simp
   go_at_call 120
   refine (qFp m 2 _ hm Oo Oo Oo).mono ?_; rintro e w' ⟨rfl, rfl⟩
   go_wp2_with fail
   refine hK.out _ _ (fun _ => hHeld) ?_; clear hK K
   try simp only [Act.put, sL]
   refine' tJ 5 hHeld ?_; refine qA1 (i := 4) rfl kr (fun K hK => ?_); refine stMk rfl _ _ rfl _ _ _ (D + 1) rfl rfl Oo Oo ?_; intro wo hoo hbo hs0; refine hK.out _ _ (fun _ => hHeld) ?_; clear hK K
   try simp only [Act.put, sL]
   refine qA1 (i := 6) rfl kr (fun K hK => ?_); go_simp
   (try go_wp2_with fail)
   refine hK.out _ _ (fun _ => hHeld) ?_; clear hK K
   try simp only [Act.put, sL]
   refine qAT kr ?_ _
   go_wp2_with fail
   go_meet
   exact ⟨_, _, rfl, rfl, rfl, hoo, (bY1 hbo)⟩
  ·skip
   refine stMk rfl _ _ rfl _ _ _ (D + 1) rfl rfl Oo Oo ?_; intro wo hoo hbo hs0; refine hK.out _ _ (fun _ => hHeld) ?_; clear hK K
   try simp only [Act.put, sL]
   refine qA1 (i := 1) rfl kr (fun K hK => ?_); go_simp
   go_at_call 120
   refine (qFp m 2 _ hm Oo Oo Oo).mono ?_; rintro e w' ⟨rfl, rfl⟩
   go_wp2_with fail
   refine hK.out _ _ (fun _ => hHeld) ?_; clear hK K
   try simp only [Act.put, sL]
   refine' tJ 5 hHeld ?_; refine qA1 (i := 6) rfl kr (fun K hK => ?_); go_simp
   (try go_wp2_with fail)
   refine hK.out _ _ (fun _ => hHeld) ?_; clear hK K
   try simp only [Act.put, sL]
   refine qAT kr ?_ _
   go_wp2_with fail
   go_meet
   exact ⟨_, _, rfl, rfl, rfl, hoo, (bY1 hbo)⟩
 case rest =>
 obtain ⟨w1, g, rfl, rfl, rfl, ho, hb⟩ := hcut
 have hh0 := qDn (m := m) Oo 2
 generalize qAI m 2 = hf at hh0
 have hR : RowP m (D + 1) w.heap.size w1 (.slice (some ⟨g, 0, none⟩) (D + 1) (D + 1)) := ⟨_, ho, by simp, fun x hx => by have := List.eq_of_mem_replicate hx; omega⟩
 have hgl := (ho.lt g rfl).1
 clear ho
 obtain ⟨x0, a0, f0, -, s0⟩ := hR.at (j := 0) Oo
 have hR1 := s0 1 Oo Oo
 have B1 := qAL hb hgl (.int .i64 1) (k := 0)
 have i0 : (0 : Int) < ((D + 1 : Nat) : Int) := Oo
 have i0' : (0 : Int) < (D : Int) + 1 := Oo
 clear hR s0 hb
 go_wp2_with fail
 go_loopw [11] (fun i wr => ∃ (k : Nat), 1 ≤ k ∧ k ≤ D + 1 ∧ i = .int .i64 k ∧ RowP m (D + 1) w.heap.size wr (.slice (some ⟨g, 0, none⟩) (D + 1) (D + 1)) ∧ Below w.heap.size w wr) (fun i _ => D + 1 - (intOf i).toNat)
 case atStart => exact ⟨1, Oo, Oo, rfl, hR1, B1⟩
 case round =>
  clear a0 f0 hR1 B1; obtain ⟨k, hk1, hk, rfl, hR, hB⟩ := hrel
  by_cases hlt : k ≤ D
  ·have i1 : (k : Int) ≤ (D : Int) := Oo
   go_upto_if 27 with fail
   go_cut [12] from 27 to 34 (fun s u => ∃ x : Int, s = .int .i64 x ∧ Hid (0 ≤ x ∧ x < m) ∧ u = wr)
   case first =>
    have e1 : IntKind.i64.wrap (2 * m) = 2 * m := IntWalk.i64_in _ Oo; have e2 : IntKind.i64.wrap (2 * a) = 2 * a := IntWalk.i64_in _ Oo; have e3 : IntKind.i64.wrap (2 * m - 2 * a) = 2 * m - 2 * a := IntWalk.i64_in _ Oo; obtain ⟨q, hq⟩ : ∃ q, (2 * m - 2 * a).tmod m = q := ⟨_, rfl⟩; have hq2 := qEn hm (show 0 ≤ 2 * m - 2 * a by omega); rw [hq] at hq2; have e5 : IntKind.i64.wrap q = q := IntWalk.i64_in _ Oo
    by_cases k2 : k = 2
    ·have q2 : ((k : Int) == 2) = true := by simp; omega
     have k2' : (k : Int) = 2 := Oo; clear k2; go_wp2
     go_meet
     exact ⟨_, rfl, dd hq2, rfl⟩
    ·have q2 : ((k : Int) == 2) = false := by simp; omega
     have k2' : ¬ (k : Int) = 2 := Oo; clear k2; go_wp2
     go_meet
     exact ⟨_, rfl, dd Oo, rfl⟩
   case rest =>
   obtain ⟨x1, rfl, HX1, hu⟩ := hcut; rw [hu]; clear hu
   go_upto_if 36 with fail
   go_cut [12] from 36 to 37 (fun s u => ∃ x : Int, s = .int .i64 x ∧ Hid (0 ≤ x ∧ x < m) ∧ u = wr)
   case first =>
    by_cases k4 : k = 4
    ·have q4 : ((k : Int) == 4) = true := by simp; omega
     have k4' : (k : Int) = 4 := Oo; clear k4; go_wp2
     go_meet
     exact ⟨_, rfl, dd ⟨he0, he1⟩, rfl⟩
    ·have q4 : ((k : Int) == 4) = false := by simp; omega
     have k4' : ¬ (k : Int) = 4 := Oo; clear k4; go_wp2
     go_meet
     exact ⟨_, rfl, HX1, rfl⟩
   case rest =>
   obtain ⟨x, rfl, HXr, hu⟩ := hcut; rw [hu]; clear hu
   go_wp2_with fail
   go_loopw [12, 13] (fun p i wi => ∃ (j : Nat) (y : Int), 1 ≤ j ∧ j ≤ k ∧ i = .int .i64 j ∧ p = .int .i64 y ∧ (0 ≤ y ∧ y < m) ∧ ∃ d, wi = wr.drewN d) (fun _ i _ => k - (intOf i).toNat)
   case atStart => exact ⟨1, x, Oo, Oo, rfl, rfl, HXr.out, 0, rfl⟩
   case round =>
    clear HXr; obtain ⟨j, y, hj1, hj, rfl, rfl, ⟨y0, y1⟩, d, rfl⟩ := hrel; have hcp := hR
    by_cases hjk : j < k
    ·obtain ⟨z1, c1, -, ⟨z10, z11⟩, -⟩ := hR.at (j := j) Oo; obtain ⟨z2, c2, -, ⟨z20, z21⟩, -⟩ := hR.at (j := k - j) Oo; have i2 : (j : Int) < (k : Int) := Oo; have i3 : (j : Int) < ((D + 1 : Nat) : Int) := Oo; have i3' : (j : Int) < (D : Int) + 1 := Oo; have i4 : (k : Int) - (j : Int) < ((D + 1 : Nat) : Int) := Oo; have i4' : (k : Int) - (j : Int) < (D : Int) + 1 := Oo; have i5 : (0 : Int) ≤ (k : Int) - (j : Int) := Oo; have i6 : ((k : Int) - (j : Int)).toNat = k - j := Oo; have i7 : (0 : Int) ≤ (j : Int) := Oo; have e1 : IntKind.i64.wrap ((k : Int) - (j : Int)) = (k : Int) - (j : Int) := IntWalk.i64_in _ Oo; have e2 : IntKind.i64.wrap (m - z1) = m - z1 := IntWalk.i64_in _ Oo; have hp0 : 0 ≤ (m - z1) * z2 := Int.mul_nonneg Oo z20; have hp1 : (m - z1) * z2 ≤ 10000 * 10000 := Int.mul_le_mul Oo Oo Oo Oo; have e3 : IntKind.i64.wrap ((m - z1) * z2) = (m - z1) * z2 := IntWalk.i64_in _ Oo; have e4 : IntKind.i64.wrap (y + (m - z1) * z2) = y + (m - z1) * z2 := IntWalk.i64_in _ Oo; obtain ⟨q, hq⟩ : ∃ q, (y + (m - z1) * z2).tmod m = q := ⟨_, rfl⟩; have hq2 := qEn hm (show 0 ≤ y + (m - z1) * z2 by omega); rw [hq] at hq2; have e5 : IntKind.i64.wrap q = q := IntWalk.i64_in _ Oo; clear hp0 hp1
     go_wp2_with fail
     go_quiet (fail)
     go_wp2; exact ⟨⟨j + 1, q, Oo, Oo, by go_num, rfl, hq2, _, rfl⟩, by simp [intOf]; omega⟩
    ·obtain rfl : j = k := Oo; have i2 : ¬ (j : Int) < (j : Int) := Oo; obtain ⟨z1, c1, f1, -, -⟩ := hR.at (j := j) Oo; obtain ⟨-, -, -, -, s1⟩ := (show RowP m (D + 1) w.heap.size (wr.drewN d) (.slice (some ⟨g, 0, none⟩) (D + 1) (D + 1)) from hR.stay rfl (fun _ _ _ => rfl)).at (j := j) Oo; have hp0 : 0 ≤ y * hf := Int.mul_nonneg y0 hh0.1; have hp1 : y * hf ≤ 10000 * 10000 := Int.mul_le_mul Oo Oo Oo Oo; have e3 : IntKind.i64.wrap (y * hf) = y * hf := IntWalk.i64_in _ Oo; obtain ⟨q, hq⟩ : ∃ q, (y * hf).tmod m = q := ⟨_, rfl⟩; have hq2 := qEn hm hp0; rw [hq] at hq2; have e5 : IntKind.i64.wrap q = q := IntWalk.i64_in _ Oo; have hR1 := s1 q hq2.1 hq2.2; have i3 : (j : Int) < ((D + 1 : Nat) : Int) := Oo; have i3' : (j : Int) < (D : Int) + 1 := Oo; have i7 : (0 : Int) ≤ (j : Int) := Oo; clear hp0 hp1 s1; go_wp2; exact ⟨⟨j + 1, Oo, Oo, by go_num, hR1, qAL (below_drewN hB d) hgl _⟩, by simp [intOf]; omega⟩
  ·have i1 : ¬ (k : Int) ≤ (D : Int) := Oo; go_wp2; go_ret; exact ⟨_, rfl, hR, hB⟩

theorem TabP.rds {m : Int} {N lo hi : Nat} {w : World} {v : Value} (h : TabP m N lo hi w v) : ∃ t, RdT w v t ∧ PlaT m N t := by
 obtain ⟨t, h1, h2⟩ := h; exact ⟨t, h1.ow.rd, h2⟩
def RowF (m : Int) (n lo hi : Nat) (w : World) (v : Value) : Prop := ∃ xs : Li, Rds lo hi w (fun x => RdI x v xs) ∧ xs.length = n ∧ ∀ x ∈ xs, 0 ≤ x ∧ x < m
theorem RowP.fix {m : Int} {n lo : Nat} {w : World} {v : Value} (h : RowP m n lo w v) (hl : lo ≤ w.heap.size) : RowF m n lo w.heap.size w v := by
 obtain ⟨xs, h1, h2⟩ := h; exact ⟨xs, h1.rds hl, h2⟩
theorem RowF.at {m : Int} {n lo hi b off k c : Nat} {w : World} (h : RowF m n lo hi w (.slice (some ⟨b, off, none⟩) k c)) {j : Nat} (hj : j < n) : ∃ x, w.cell? ⟨b, off + j, none⟩ = some (.int .i64 x) ∧ 0 ≤ x ∧ x < m := by
 obtain ⟨xs, h1, h2, h3⟩ := h
 have hr := h1.now
 have hj' : j < xs.length := Oo
 obtain ⟨b', off', he, hc⟩ := hr.cells Oo
 obtain ⟨rfl, rfl⟩ : b = b' ∧ off = off' := by simpa using he
 exact ⟨xs[j], hc j _ (by simp [hj']), h3 _ (List.getElem_mem _)⟩
theorem RowF.below {m : Int} {n lo hi : Nat} {w w' : World} {v : Value} (h : RowF m n lo hi w v) (hb : Below w.heap.size w w') : RowF m n lo hi w' v := by
 obtain ⟨xs, h1, h2⟩ := h; exact ⟨xs, h1.below hb, h2⟩
theorem RowF.put {m : Int} {n lo hi : Nat} {w : World} {v : Value} (h : RowF m n lo hi w v) {b : Nat} (hb : hi ≤ b) (k : Nat) (x : Value) : RowF m n lo hi (w.setCell ⟨b, k, none⟩ x) v := by
 obtain ⟨xs, h1, h2⟩ := h; exact ⟨xs, h1.put (.inr hb) k x, h2⟩
theorem TabP.put {m : Int} {N lo hi : Nat} {w : World} {v : Value} (h : TabP m N lo hi w v) {b : Nat} (hb : b < lo ∨ hi ≤ b) (k : Nat) (x : Value) : TabP m N lo hi (w.setCell ⟨b, k, none⟩ x) v :=
 h.stay (fun j h1 h2 => heap_setCell_other w ⟨b, k, none⟩ j x (fun e => by simp at e; omega))

theorem qPc (m : Int) (D : Nat) (a e0' : Int) (w : World) (hD : 1 ≤ D) (hD' : D ≤ 100) (hm : 2 ≤ m) (hm' : m ≤ 10000) (ha0 : 0 ≤ a) (ha1 : a < m) (he0 : 0 ≤ e0') (he1 : e0' < m) :
  Calls Tryz.prog 197 #[.int .i64 m, .int .i64 D, .int .i64 a, .int .i64 e0'] w fun e w' => TEnd m (D + 1) w w' e := by
 have m0 : (m == 0) = false := by simp; omega
 have m1 : ¬ m = 0 := Oo
 have h1m := qLW hm
 go_enter Tryz.func197, Tryz.ntmps197
 go_wp2_with fail
 refine (qQJ m D a e0' _ hD hD' hm hm' ha0 ha1 he0 he1).mono ?_
 rintro e w1 ⟨vr, rfl, hR, hb1⟩
 have hR1 := hR.fix hb1.size
 obtain ⟨gr, cr, rfl, hr0, hr1⟩ := hR.rows Oo
 clear hR
 go_wp2_with fail
 refine (qCL _ (D + 1) _ Oo Oo).mono ?_
 rintro e w2 ⟨vt, rfl, hO2, hb2⟩
 have hT2 : TabP m (D + 1) w1.heap.size w2.heap.size w2 vt := ⟨_, hO2.toR, qFH Oo _⟩
 obtain ⟨gt, ct, rfl, ht0, ht1⟩ := hT2.rows Oo
 have hR2 := hR1.below hb2
 have B2 := hb1.trans (hb2.mono hb1.size)
 clear hO2 hR1
 go_wp2_with fail
 refine (qCL _ (D + 1) _ Oo Oo).mono ?_
 rintro e w3 ⟨vf, rfl, hO3, hb3⟩
 have hF3 : TabP m (D + 1) w2.heap.size w3.heap.size w3 vf := ⟨_, hO3.toR, qFH Oo _⟩
 obtain ⟨gf, cf, rfl, hf0, hf1⟩ := hF3.rows Oo
 have hR3 := hR2.below hb3
 have hT3 : TabP m (D + 1) w1.heap.size w2.heap.size w3 (.slice (some ⟨gt, 0, none⟩) (D + 1) ct) := hT2.stay (fun k _ h2 => hb3.block k h2)
 have z1 := hb1.size
 have z2 := hb2.size
 have z3 := hb3.size
 have B3 := B2.trans (hb3.mono B2.size)
 clear hO3 hR2 hT2 B2 hb1 hb2 hb3
 generalize hW1 : w1.heap.size = s1 at hR3 hT3 z1 z2 hr1 ht0
 generalize hW2 : w2.heap.size = s2 at hT3 hF3 z2 z3 hf0 ht1
 generalize hW3 : w3.heap.size = s3 at hF3 z3 hf1
 clear hW1 hW2
 go_wp2_with fail
 go_loopw [12] (fun i wr => ∃ (k : Nat), k ≤ D ∧ i = .int .i64 k ∧ RowF m (D + 1) w.heap.size s1 wr (.slice (some ⟨gr, 0, none⟩) (D + 1) cr) ∧ TabP m (D + 1) s1 s2 wr (.slice (some ⟨gt, 0, none⟩) (D + 1) ct) ∧ TabP m (D + 1) s2 s3 wr (.slice (some ⟨gf, 0, none⟩) (D + 1) cf) ∧ Below w.heap.size w wr) (fun i _ => D - (intOf i).toNat)
 case atStart => exact ⟨0, Oo, rfl, hR3, hT3, hF3, B3⟩
 case round =>
  clear hR3 hT3 hF3 B3; obtain ⟨k, hk, rfl, hR, hT, hF, hB⟩ := hrel
  by_cases hlt : k < D
  ·obtain ⟨q, c1, q0, q1⟩ := hR.at (j := k) Oo; rw [Nat.zero_add] at c1; obtain ⟨r1, cr1, y1, l1, l1', n1, a1, b1, f1, -, t1⟩ := hT.at (i := 1) (j := k) D Oo Oo; have hT1 := t1 q q0 q1; have hR1 := hR.put (b := r1) Oo k (.int .i64 q); have hF1 := hF.put (b := r1) (.inl Oo) k (.int .i64 q); have B1 := qAL hB (show w.heap.size ≤ r1 by omega) (.int .i64 q) (k := k); have i0 : (k : Int) < (D : Int) := Oo; have i1 : (1 : Int) < ((D + 1 : Nat) : Int) := Oo; have i1' : (1 : Int) < (D : Int) + 1 := Oo; have i2 : (k : Int) < ((D + 1 : Nat) : Int) := Oo; have i2' : (k : Int) < (D : Int) + 1 := Oo; have i6 : (0 : Int) ≤ (k : Int) := Oo; clear hT t1 hR hF
   go_wp2_with fail
   go_still_tail 9, kr
   change wpList _ _ _ _ _ wr.drew
   go_wp2; exact ⟨⟨k + 1, Oo, by go_num, hR1, hT1, hF1, Below.drew B1⟩, by simp [intOf]; omega⟩
  ·have i0 : ¬ (k : Int) < (D : Int) := Oo
   go_wp2_with fail
   go_loopw [13] (fun i wr => ∃ (k : Nat), k ≤ D ∧ i = .int .i64 k ∧ RowF m (D + 1) w.heap.size s1 wr (.slice (some ⟨gr, 0, none⟩) (D + 1) cr) ∧ TabP m (D + 1) s1 s2 wr (.slice (some ⟨gt, 0, none⟩) (D + 1) ct) ∧ TabP m (D + 1) s2 s3 wr (.slice (some ⟨gf, 0, none⟩) (D + 1) cf) ∧ Below w.heap.size w wr) (fun i _ => D - (intOf i).toNat)
   case atStart => exact ⟨0, Oo, rfl, hR, hT, hF, hB⟩
   case round =>
    clear hR hT hF hB i0 hk hlt; obtain ⟨k, hk, rfl, hR, hT, hF, hB⟩ := hrel
    by_cases hlt : k < D
    ·obtain ⟨q, c1, q0, q1⟩ := hR.at (j := k) Oo; rw [Nat.zero_add] at c1; obtain ⟨r1, cr1, y1, l1, l1', n1, a1, b1, f1, ⟨y10, y11⟩, t1⟩ := hT.at (i := k) (j := 1) (D + 1 - k) Oo Oo; obtain ⟨z, hz⟩ : ∃ z, (y1 + q).tmod m = z := ⟨_, rfl⟩; have hz2 := qEn hm (show 0 ≤ y1 + q by omega); rw [hz] at hz2; have e3 : IntKind.i64.wrap (y1 + q) = y1 + q := IntWalk.i64_in _ Oo; have e5 : IntKind.i64.wrap z = z := IntWalk.i64_in _ Oo; have hT1 := t1 z hz2.1 hz2.2; have hR1 := hR.put (b := r1) Oo 1 (.int .i64 z); have hF1 := hF.put (b := r1) (.inl Oo) 1 (.int .i64 z); have B1 := qAL hB (show w.heap.size ≤ r1 by omega) (.int .i64 z) (k := 1); have i0 : (k : Int) < (D : Int) := Oo; have i1 : (1 : Int) < ((D + 1 - k : Nat) : Int) := Oo; have i2 : (k : Int) < ((D + 1 : Nat) : Int) := Oo; have i2' : (k : Int) < (D : Int) + 1 := Oo; have i6 : (0 : Int) ≤ (k : Int) := Oo; clear hT t1 hR hF
     go_wp2_with fail
     go_still_tail 12, kr
     change wpList _ _ _ _ _ wr.drew
     go_wp2; exact ⟨⟨k + 1, Oo, by go_num, hR1, hT1, hF1, Below.drew B1⟩, by simp [intOf]; omega⟩
    ·have i0 : ¬ (k : Int) < (D : Int) := Oo
     go_wp2_with fail
     go_loopw [15, 16] (fun p i wr => ∃ (k : Nat) (x : Int), 4 * k ≤ D + 4 ∧ i = .int .i64 k ∧ p = .int .i64 x ∧ (0 ≤ x ∧ x < m) ∧ TabP m (D + 1) s1 s2 wr (.slice (some ⟨gt, 0, none⟩) (D + 1) ct) ∧ TabP m (D + 1) s2 s3 wr (.slice (some ⟨gf, 0, none⟩) (D + 1) cf) ∧ Below w.heap.size w wr) (fun _ i _ => D + 5 - 4 * (intOf i).toNat)
     case atStart => exact ⟨0, 1, Oo, rfl, rfl, Oo, hT, hF, hB⟩
     case round =>
      clear hR hT hF hB i0 hk hlt; obtain ⟨k, x, hk, rfl, rfl, ⟨x0, x1⟩, hT, hF, hB⟩ := hrel; have e0 : IntKind.i64.wrap (4 * (k : Int)) = 4 * (k : Int) := IntWalk.i64_in _ Oo
      by_cases hlt : 4 * k ≤ D
      ·obtain ⟨r1, cr1, y1, l1, l1', n1, a1, b1, f1, -, t1⟩ := hF.at (i := 2 * k) (j := 2 * k) (D + 1 - 2 * k) Oo Oo; have hF1 := t1 x x0 x1; have hT1 := hT.put (b := r1) (.inr Oo) (2 * k) (.int .i64 x); have B1 := qAL hB (show w.heap.size ≤ r1 by omega) (.int .i64 x) (k := 2 * k); have i0 : 4 * (k : Int) ≤ (D : Int) := Oo; have i1 : 2 * (k : Int) < ((D + 1 : Nat) : Int) := Oo; have i1' : 2 * (k : Int) < (D : Int) + 1 := Oo; have i2 : 2 * (k : Int) < ((D + 1 - 2 * k : Nat) : Int) := Oo; have i5 : (0 : Int) ≤ 2 * (k : Int) := Oo; have i7 : (2 * (k : Int)).toNat = 2 * k := Oo; have e1 : IntKind.i64.wrap (2 * (k : Int)) = 2 * (k : Int) := IntWalk.i64_in _ Oo; have hp0 : 0 ≤ x * e0' := Int.mul_nonneg x0 he0; have hp1 : x * e0' ≤ 10000 * 10000 := Int.mul_le_mul Oo Oo Oo Oo; have e4 : IntKind.i64.wrap (x * e0') = x * e0' := IntWalk.i64_in _ Oo; obtain ⟨q, hq⟩ : ∃ q, (x * e0').tmod m = q := ⟨_, rfl⟩; have hq2 := qEn hm hp0; rw [hq] at hq2; have e5 : IntKind.i64.wrap q = q := IntWalk.i64_in _ Oo; clear hT t1 hF hp0 hp1; go_wp2; exact ⟨⟨k + 1, q, Oo, by go_num, rfl, hq2, hT1, hF1, B1⟩, by simp [intOf]; omega⟩
      ·have i0 : ¬ 4 * (k : Int) ≤ (D : Int) := Oo; obtain ⟨t, rt, pt⟩ := hT.rds; obtain ⟨f, rf, pf⟩ := hF.rds
       go_wp2_with fail
       refine (qDX m (D + 1) _ _ t f _ rt rf Oo Oo hm Oo pt pf).mono ?_; rintro e w9 ⟨v9, rfl, ho9, hb9⟩; go_wp2; go_ret; exact ⟨_, _, rfl, ho9.mono hB.size, qAU Oo _ _ _, hB.trans (hb9.mono hB.size)⟩

theorem RdI.cellz {w : World} {b f n c : Nat} {xs : Li} {x : Int} (h : RdI w (.slice (some ⟨b, f, none⟩) n c) xs) (hx : xs[0]? = some x) : w.cell? ⟨b, f, none⟩ = some (.int .i64 x) := by
 have := h.cell0 hx
 rwa [Nat.add_zero] at this
def LisN (m : Int) (n : Nat) (xs : Li) : Prop := xs.length = n ∧ ∀ x ∈ xs, 0 ≤ x ∧ x < m
theorem LisN.add {m : Int} {n : Nat} (hm : 0 < m) (a b : Li) : LisN m n (qCi m n a b) := ⟨qHa _ _ _ _, qOl hm⟩
theorem LisN.var {m : Int} (hm : 2 ≤ m) (n : Nat) : LisN m n (qAk n) := ⟨qD8 _, qHZ hm _⟩

theorem PlaT.sub {m : Int} (hm : 0 < m) (n : Nat) (a b : Tb) : PlaT m n (qBb m n a b) := qB2 fun _ _ _ => qA6 hm
theorem PlaT.sca {m : Int} (hm : 0 < m) (n : Nat) (c : Int) (a : Tb) : PlaT m n (qAP m n c a) := qB2 fun _ _ _ => qA6 hm
theorem PlaT.one {m : Int} (hm : 0 < m) (n : Nat) : PlaT m n (oneT m n) := qB2 fun _ _ _ => qA6 hm
theorem PlaT.geo {m : Int} (hm : 0 < m) (n : Nat) (r : Tb) (j : Nat) : PlaT m n (geoT m n r j) := by
 cases j with
 | zero => exact PlaT.one hm n
 | succ j => exact qAX hm n _ _
theorem PlaT.inv {m : Int} (hm : 0 < m) (n : Nat) (f : Tb) : PlaT m n (invT m n f) := PlaT.geo hm n _ _
theorem PlaT.xT {m : Int} (hm : 2 ≤ m) (n : Nat) : PlaT m n (xT n) := qB2 fun i j _ => by split <;> omega
theorem PlaT.yT {m : Int} (hm : 2 ≤ m) (n : Nat) : PlaT m n (yT n) := qB2 fun i j _ => by split <;> omega
theorem PlaT.lin {m : Int} (hm : 0 < m) (n : Nat) (W : Li) : PlaT m n (linT m n W) := qB2 fun _ _ _ => qA6 hm
theorem PlaT.cln {m : Int} (hm : 0 < m) (n : Nat) (W : Li) : PlaT m n (clnT m n W) := qB2 fun _ _ _ => qA6 hm

theorem qOx (m d : Int) (N : Nat) (v : Value) (ls : Li) (w : World) (hd : d + 1 = (N : Int)) (hv : RdI w v ls) (hl : ls.length = 5) (h3 : 3 ≤ N) (hN : N ≤ 1000) (hm : 2 ≤ m) (hm' : m ≤ 10000) (hx : ∀ x ∈ ls, 0 ≤ x ∧ x < m) :
  Calls Tryz.prog 206 #[.int .i64 m, .int .i64 d, v] w fun e w' => ∃ v', e = .returned v' ∧ OwI w' w.heap.size v' (qBS m N (at0 ls) (N - 3)) ∧ Below w.heap.size w w' := by
 obtain ⟨o, c, rfl, hmx, -⟩ := id hv
 obtain ⟨bl, fl, rfl, -⟩ := hv.cells Oo
 have r0 := qAG (show 0 < m by omega) hx 0
 have r1 := qAG (show 0 < m by omega) hx 1
 have r2 := qAG (show 0 < m by omega) hx 2
 have r3 := qAG (show 0 < m by omega) hx 3
 have r4 := qAG (show 0 < m by omega) hx 4
 have HL := dd hl
 rw [hl] at hv ⊢
 have hd1 : 0 ≤ d := Oo
 have hd2 : d ≤ 1000 := Oo
 have m0 : (m == 0) = false := by simp; omega
 have m1 : ¬ m = 0 := Oo
 clear hl hmx
 go_enter Tryz.func206, Tryz.ntmps206
 have i0 : (0 : Int) < (N : Int) := Oo
 have ew : IntKind.i64.wrap (d + 1) = d + 1 := IntWalk.i64_in _ Oo
 go_wp2_with (at_make; go_loud (refine mkI _ rfl _ _ rfl _ _ _ N rfl rfl Oo Oo ?_; intro w1 hO1 hb1 hz1; clear hz1))
 go_loopw [8] (fun i wr => ∃ (k : Nat), k + 3 ≤ N ∧ i = .int .i64 ((k : Int) + 3) ∧ OwI wr w.heap.size (.slice (some ⟨w.heap.size, 0, none⟩) N N) (qBS m N (at0 ls) k) ∧ Below w.heap.size w wr) (fun i _ => (d + 1 - intOf i).toNat)
 case atStart => exact ⟨0, Oo, by go_num, hO1, hb1⟩
 case round =>
  clear hO1 hb1; obtain ⟨k, hk, rfl, hO, hB⟩ := hrel; have HR := dd (qHV (m := m) (show 0 < m by omega) N (at0 ls) k); have HWl := dd (qHr m N (at0 ls) k)
  by_cases hlt : k + 3 < N
  ·have j1 : (k : Int) + 3 ≤ d := Oo; have HS := dd (show qBS m N (at0 ls) (k + 1) = (qBS m N (at0 ls) k).set (k + 3) (weiV m (at0 ls) (qBS m N (at0 ls) k) k) from rfl); generalize qBS m N (at0 ls) k = W at hO HR HWl HS; have hBs := hB.size
   go_wp2_with fail
   refine (qFj m ((k : Int) + 3) (k + 4) _ _ W W wr Oo hO.rd hO.rd Oo Oo Oo Oo HR.out HR.out).mono ?_; rintro e w2 ⟨v2, rfl, hO2, hb2⟩
   obtain ⟨g2, c2, rfl⟩ : ∃ g c, v2 = .slice (some ⟨g, 0, none⟩) (k + 4) c := by
    obtain ⟨o', c', rfl⟩ := hO2.shapeN (n := k + 4) (qBX _ _ _ _); obtain ⟨g', rfl, -, -⟩ := hO2.row Oo; exact ⟨g', c', rfl⟩
   have HQ := dd (qDi (m := m) (show 0 < m by omega) (n := k + 4) (a := W) (b := W)); have HQl := dd (qBX m (k + 4) W W); have hO' := hO.below hb2; have hB2 := hB.trans (hb2.mono hBs)
   go_wp2_with fail
   refine (qFj m ((k : Int) + 3) (k + 4) _ _ (qAZ m (k + 4) W W) W w2 Oo hO2.rd hO'.rd Oo Oo Oo Oo HQ.out HR.out).mono ?_; rintro e w3 ⟨v3, rfl, hO3, hb3⟩
   obtain ⟨g3, c3, rfl⟩ : ∃ g c, v3 = .slice (some ⟨g, 0, none⟩) (k + 4) c := by
    obtain ⟨o', c', rfl⟩ := hO3.shapeN (n := k + 4) (qBX _ _ _ _); obtain ⟨g', rfl, -, -⟩ := hO3.row Oo; exact ⟨g', c', rfl⟩
   have HC := dd (qDi (m := m) (show 0 < m by omega) (n := k + 4) (a := qAZ m (k + 4) W W) (b := W)); have HCl := dd (qBX m (k + 4) (qAZ m (k + 4) W W) W); have hO4 := hO'.below hb3; have hQ4 := hO2.below hb3; have hB3 := hB2.trans (hb3.mono hB2.size); have HV := dd (show weiV m (at0 ls) W k = (at0 ls 0 * at0 W (k + 2) + at0 ls 1 * at0 W (k + 1) + at0 ls 2 * at0 (qAZ m (k + 4) W W) (k + 3) + at0 ls 3 * at0 (qAZ m (k + 4) W W) (k + 2) + at0 ls 4 * at0 (qAZ m (k + 4) (qAZ m (k + 4) W W) W) (k + 3) + (if k = 0 then 1 else 0)) % m from rfl); rw [HV.out] at HS; generalize qAZ m (k + 4) (qAZ m (k + 4) W W) W = C at hO3 HC HCl HS; generalize qAZ m (k + 4) W W = Q at hQ4 HQ HQl HS; clear hO hO' hO2 hB hB2 hb2 hb3 HV; have s1 := qAG (show 0 < m by omega) HR.out (k + 2); have s2 := qAG (show 0 < m by omega) HR.out (k + 1); have s3 := qAG (show 0 < m by omega) HQ.out (k + 3); have s4 := qAG (show 0 < m by omega) HQ.out (k + 2); have s5 := qAG (show 0 < m by omega) HC.out (k + 3); have hvr := hv.below hB3; have a0 := hvr.cell0 (qA5 (xs := ls) (k := 0) (by have := HL.out; omega)); have a1 := hvr.cell0 (qA5 (xs := ls) (k := 1) (by have := HL.out; omega)); have a2 := hvr.cell0 (qA5 (xs := ls) (k := 2) (by have := HL.out; omega)); have a3 := hvr.cell0 (qA5 (xs := ls) (k := 3) (by have := HL.out; omega)); have a4 := hvr.cell0 (qA5 (xs := ls) (k := 4) (by have := HL.out; omega)); have b1 := hO4.cell (k := k + 2) (qA5 (by have := HWl.out; omega)); have b2 := hO4.cell (k := k + 1) (qA5 (by have := HWl.out; omega)); have b3 := hQ4.cell (k := k + 3) (qA5 (by have := HQl.out; omega)); have b4 := hQ4.cell (k := k + 2) (qA5 (by have := HQl.out; omega)); have b5 := hO3.cell (k := k + 3) (qA5 (by have := HCl.out; omega)); generalize at0 ls 0 = l0 at a0 r0 HS; generalize at0 ls 1 = l1 at a1 r1 HS; generalize at0 ls 2 = l2 at a2 r2 HS; generalize at0 ls 3 = l3 at a3 r3 HS; generalize at0 ls 4 = l4 at a4 r4 HS; generalize at0 W (k + 2) = x1 at b1 s1 HS; generalize at0 W (k + 1) = x2 at b2 s2 HS; generalize at0 Q (k + 3) = x3 at b3 s3 HS; generalize at0 Q (k + 2) = x4 at b4 s4 HS; generalize at0 C (k + 3) = x5 at b5 s5 HS; rw [Nat.add_zero] at a0; have P1 := Int.mul_nonneg r0.1 s1.1; have P2 := Int.mul_nonneg r1.1 s2.1; have P3 := Int.mul_nonneg r2.1 s3.1; have P4 := Int.mul_nonneg r3.1 s4.1; have P5 := Int.mul_nonneg r4.1 s5.1; have U1 : l0 * x1 ≤ 10000 * 10000 := Int.mul_le_mul Oo Oo s1.1 Oo; have U2 : l1 * x2 ≤ 10000 * 10000 := Int.mul_le_mul Oo Oo s2.1 Oo; have U3 : l2 * x3 ≤ 10000 * 10000 := Int.mul_le_mul Oo Oo s3.1 Oo; have U4 : l3 * x4 ≤ 10000 * 10000 := Int.mul_le_mul Oo Oo s4.1 Oo; have U5 : l4 * x5 ≤ 10000 * 10000 := Int.mul_le_mul Oo Oo s5.1 Oo; have e1 : IntKind.i64.wrap (l0 * x1) = l0 * x1 := IntWalk.i64_in _ Oo; have e2 : IntKind.i64.wrap (l1 * x2) = l1 * x2 := IntWalk.i64_in _ Oo; have e3 : IntKind.i64.wrap (l2 * x3) = l2 * x3 := IntWalk.i64_in _ Oo; have e4 : IntKind.i64.wrap (l3 * x4) = l3 * x4 := IntWalk.i64_in _ Oo; have e5 : IntKind.i64.wrap (l4 * x5) = l4 * x5 := IntWalk.i64_in _ Oo; have q2 : IntKind.i64.wrap (l0 * x1 + l1 * x2) = l0 * x1 + l1 * x2 := IntWalk.i64_in _ Oo; have q3 : IntKind.i64.wrap (l0 * x1 + l1 * x2 + l2 * x3) = l0 * x1 + l1 * x2 + l2 * x3 := IntWalk.i64_in _ Oo; have q4 : IntKind.i64.wrap (l0 * x1 + l1 * x2 + l2 * x3 + l3 * x4) = l0 * x1 + l1 * x2 + l2 * x3 + l3 * x4 := IntWalk.i64_in _ Oo; have q5 : IntKind.i64.wrap (l0 * x1 + l1 * x2 + l2 * x3 + l3 * x4 + l4 * x5) = l0 * x1 + l1 * x2 + l2 * x3 + l3 * x4 + l4 * x5 := IntWalk.i64_in _ Oo; have q6 : IntKind.i64.wrap (l0 * x1 + l1 * x2 + l2 * x3 + l3 * x4 + l4 * x5 + 1) = l0 * x1 + l1 * x2 + l2 * x3 + l3 * x4 + l4 * x5 + 1 := IntWalk.i64_in _ Oo; have f1 : IntKind.i64.wrap ((k : Int) + 3 - 1) = (k : Int) + 2 := by rw [IntWalk.i64_in _ Oo]; omega
   have f2 : IntKind.i64.wrap ((k : Int) + 3 - 2) = (k : Int) + 1 := by rw [IntWalk.i64_in _ Oo]; omega
   have g1 : ((k : Int) + 2).toNat = k + 2 := Oo; have g2' : ((k : Int) + 1).toNat = k + 1 := Oo; have g3' : ((k : Int) + 3).toNat = k + 3 := Oo; have z1 : (0 : Int) ≤ (k : Int) + 2 := Oo; have z2 : (0 : Int) ≤ (k : Int) + 1 := Oo; have z3 : (0 : Int) ≤ (k : Int) + 3 := Oo; have y1 : (k : Int) + 2 < (N : Int) := Oo; have y2 : (k : Int) + 1 < (N : Int) := Oo; have y3 : (k : Int) + 3 < (N : Int) := Oo; have y4 : (k : Int) + 3 < ((k + 4 : Nat) : Int) := Oo; have y5 : (k : Int) + 2 < ((k + 4 : Nat) : Int) := Oo; have t1 : (l0 * x1 + l1 * x2 + l2 * x3 + l3 * x4 + l4 * x5).tmod m = (l0 * x1 + l1 * x2 + l2 * x3 + l3 * x4 + l4 * x5) % m := Int.tmod_eq_emod_of_nonneg Oo; have t2 : (l0 * x1 + l1 * x2 + l2 * x3 + l3 * x4 + l4 * x5 + 1).tmod m = (l0 * x1 + l1 * x2 + l2 * x3 + l3 * x4 + l4 * x5 + 1) % m := Int.tmod_eq_emod_of_nonneg Oo
   go_wp2_with fail
   go_quiet (fail)
   obtain ⟨w4, hw4⟩ : ∃ u : World, u = w3.drewN nq := ⟨_, rfl⟩; have hO5 : OwI w4 w.heap.size (.slice (some ⟨w.heap.size, 0, none⟩) N N) W := by rw [hw4]; exact hO4.drewN nq
   have hB5 : Below w.heap.size w w4 := by rw [hw4]; exact below_drewN hB3 nq
   rw [← hw4]; have hc5 := hO5.cell (k := k + 3) (qA5 (by have := HWl.out; omega)); have hf5 := hO5.fz (k + 3); clear hw4 a0 a1 a2 a3 a4 b1 b2 b3 b4 b5
   by_cases hk0 : k = 0
   ·have c1 : ((k : Int) + 3 == 3) = true := by simp; omega
    have HS := dd (show qBS m N (at0 ls) (k + 1) = W.set (k + 3) ((l0 * x1 + l1 * x2 + l2 * x3 + l3 * x4 + l4 * x5 + 1) % m) by rw [HS.out, if_pos hk0]); clear hk0
    go_wp2_with fail
    have hO6 := hO5.put (k + 3) ((l0 * x1 + l1 * x2 + l2 * x3 + l3 * x4 + l4 * x5 + 1) % m); rw [← HS.out] at hO6; exact ⟨⟨k + 1, Oo, by go_num, hO6, qAL hB5 (nl _) _⟩, by simp [intOf]; omega⟩
   ·have c1 : ((k : Int) + 3 == 3) = false := by simp; omega
    have HS := dd (show qBS m N (at0 ls) (k + 1) = W.set (k + 3) ((l0 * x1 + l1 * x2 + l2 * x3 + l3 * x4 + l4 * x5) % m) by rw [HS.out, if_neg hk0, Int.add_zero]); clear hk0
    go_wp2_with fail
    have hO6 := hO5.put (k + 3) ((l0 * x1 + l1 * x2 + l2 * x3 + l3 * x4 + l4 * x5) % m); rw [← HS.out] at hO6; exact ⟨⟨k + 1, Oo, by go_num, hO6, qAL hB5 (nl _) _⟩, by simp [intOf]; omega⟩
  ·have hkN : k = N - 3 := Oo; have j1 : ¬ (k : Int) + 3 ≤ d := Oo; have HE := dd (show qBS m N (at0 ls) k = qBS m N (at0 ls) (N - 3) by rw [hkN]); rw [HE.out] at hO; clear hkN; go_wp2; go_ret; exact ⟨_, rfl, hO, hB⟩
end Go.Proofs.YtfpphfjlpgefaaaGreat
