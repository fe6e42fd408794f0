/- Lemmas. -/
import Derived.Test.YtfpphfjlpgefaaaGreatqM14
import Derived.Test.YtfpphfjlpgefaaaGreatqM13
import Derived.Test.YtfpphfjlpgefaaaGreatqG1
import Derived.Test.YtfpphfjlpgefaaaGreatqG2
import Derived.Deep.RegionHeld3
import Derived.Deep.DeepCutAuto
import Derived.Test.YtfpphfjlpgefaaaGreatqG3
set_option maxHeartbeats 6000000
set_option maxRecDepth 100000
set_option linter.unusedSimpArgs false
set_option linter.unusedVariables false
namespace Go.Proofs.YtfpphfjlpgefaaaGreat
open Go.RowKit
section

theorem qFk (m : Int) (n : Nat) (v : Value) (t : Tb) (w : World) (hv : RdT w v t) (h1 : 1 ≤ n) (hn : n ≤ 1000) (hm : 2 ≤ m) (hm' : m ≤ 1000000000000)
  (ht : PlaT m n t) :
  Calls Tryz.prog 155 #[.agg #[.int .i64 m, v]] w fun e w' => ∃ v', e = .returned v' ∧ OwLP w' w.heap.size v' m (qBy m n t n) ∧ Below w.heap.size w w' := by
 obtain ⟨o, c, rfl, hmx, -⟩ := id hv
 have hu : RdT w (.slice o n c) t := by rw [ht.1] at hv; exact hv
 rw [ht.1] at hmx ⊢
 clear hv
 have hml := hmx.1
 unfold maxLen at hmx
 have HT := dd ht
 clear ht
 go_enter Tryz.func155, Tryz.ntmps155
 go_wp2_with fail
 (obtain ⟨w0, hw0⟩ : ∃ W : World, W = (w.alloc (.cells #[.int .i64 m, .slice o n c] 26)) := ⟨_, rfl⟩; have X0 := (RB2.mk1 w  (.int .i64 m) (.slice o n c) 26).1.below (w' := w0) (bV hw0) (nl _); have B0 : Below w.heap.size w w0 := (bV hw0); have hu0 := hu.below (w' := w0) (bV hw0) (nl _); rw [← hw0]; clear hw0)
 obtain ⟨x0, x1⟩ := id X0
 go_wp2_with fail
 refine (qGx m 1 o n c _ h1 hn hm Oo Oo Oo).mono ?_
 rintro e w1 ⟨vz, rfl, how, hb⟩
 obtain ⟨oz, cz, rfl⟩ := how.shapeN (n := n) (qFS _ _ _)
 (have X1 := X0.below hb; have hu1 := hu0.below hb; have B1 := B0.trans (hb.mono B0.size))
 have hb1 := hb.size
 have hB0 := B0.size
 have OL := OwLP.lit1 w1 m _ _ how.rds hb1
 rw [show [qCd m 1 n] = qBy m n t 1 from rfl] at OL
 clear x0 x1 hb
 obtain ⟨x0, x1⟩ := id X1
 have lX := X1.lt
 go_wp2_with fail
 have hb : Below w1.heap.size w1 (w1.alloc (.cells #[.int .i64 m, .slice oz n cz] 26)) := bZ
 (have X2 := X1.below hb; have hu2 := hu1.below hb; have B2 := B1.trans (hb.mono B1.size))
 clear x0 x1 X1 hu1 hb lX
 generalize w1.alloc (.cells #[.int .i64 m, .slice oz n cz] 26) = w2 at X2 hu2 B2 OL ⊢
 refine (qB9 m o n c _ hml).mono ?_
 rintro e w3 ⟨rfl, hb⟩
 (have X3 := X2.below hb; have hu3 := hu2.below hb; have B3 := B2.trans (hb.mono B2.size))
 have OL3 := (OL.below hb).mono (show w.heap.size + 1 ≤ w0.heap.size from X0.lt)
 have B3s := B3.size
 clear OL hb how
 go_wp2_with fail
 go_loopw [3, 9] (fun s i wr => ∃ (k : Nat) (ov : Option Addr) (cv : Nat), k + 1 ≤ n ∧ i = .int .i64 k ∧ s = .slice ov (k + 1) cv ∧ OwLP wr (w.heap.size + 1) (.slice ov (k + 1) cv) m (qBy m n t (k + 1)) ∧ Below w.heap.size w wr ∧ Box2 wr w.heap.size (.int .i64 m) (.slice o n c)) (fun _ i _ => n - 1 - (intOf i).toNat)
 case atStart => exact ⟨0, _, _, h1, rfl, rfl, OL3, B3, X3⟩
 case round =>
  obtain ⟨k, ov, cv, hk, rfl, rfl, hO, hB, hX⟩ := hrel; have hBs := hB.size
  by_cases hlt : k + 1 < n
  ·obtain ⟨q, hq⟩ : ∃ q, q = k + 1 := ⟨_, rfl⟩; rw [← hq] at hO ⊢; obtain ⟨bo, off, rfl⟩ := hO.rd.base (by rw [qDE]; omega); obtain ⟨o1, c1, y0, y1, hr⟩ := hO.rd.at (qIS (show k < q by omega)); rw [qFE] at y1 hr; have hvr := hu.below hB; obtain ⟨x0, x1⟩ := id hX; have HS := dd (qNg m n t q); have hlt2 := dd hO.lt; have i0 : (0 : Int) ≤ (k : Int) := Oo; have i1 : (k : Int) < (q : Int) := Oo; have i2 : (k : Int) < (n : Int) - 1 := Oo; have i3 : (1 : Int) ≤ (q : Int) := Oo; have i4 : (q : Int) - 1 < (q : Int) := Oo; have i5 : ((q : Int) - 1).toNat = k := Oo; have e0 : IntKind.i64.wrap ((q : Int) - 1) = (q : Int) - 1 := IntWalk.i64_in _ Oo; have ly := qBH y0; have HQ := dd hq; have hPq : qAa m n t (k + 1) = qAa m n t q := by rw [hq]
   rw [show qAa m n t q = qAa m n t (k + 1) by rw [hq]] at HS; clear hPq hq; have lx := hX.lt
   go_wp2_with fail
   have hd0 : Below wr.heap.size wr wr.drew := (Below.refl _ _).drew; have hsd0 := hd0.size; refine qAv (S := fun w' => w'.cell? ⟨bo, off + k * 2, none⟩ = some (.int .i64 m) ∧ w'.cell? ⟨bo, off + k * 2 + 1, none⟩ = some (.slice o1 n c1) ∧ w'.cell? ⟨w.heap.size, 0, none⟩ = some (.int .i64 m) ∧ w'.cell? ⟨w.heap.size, 1, none⟩ = some (.slice o n c)) [0, 8, 9, 10, 11] kr ?_; refine wKq (by go_keep) fun hHeld => ?_
   refine' tQ 0 ?_; refine' tJ 1 hHeld ?_; refine' tJ 2 hHeld ?_; refine' tJ 3 hHeld ?_; refine' tJ 4 hHeld ?_; refine' tJ 5 hHeld ?_; refine' tJ 6 hHeld ?_; refine' tJ 7 hHeld ?_; refine qA1 (i := 8) rfl kr (fun K hK => ?_); go_simp
   go_at_call 131
   refine (qKn m m n _ _ (qAa m n t k) t _ ((hr).below bZ (nl _)) ((hvr).below bZ (nl _)) h1 hn hm hm' (qHU Oo _ _ _) HT.out).mono ?_; rintro e wd1 ⟨va, rfl, hod1, hbd1⟩; obtain ⟨oa, ca, rfl⟩ := hod1.shapeN (n := n) (qEM _ _ _ _); have hd1 : Below wr.heap.size wr wd1 := (bY1 hbd1); have hsd1 := hd1.size; have hsz1_ := hbd1.size
   (try simp at hsz1_)
   go_wp2_with fail
   refine hK.out _ _ (nD ·) ?_; clear hK K
   try simp only [Act.put, sL]
   refine qA1 (i := 9) rfl kr (fun K hK => ?_); go_simp
   (try go_wp2_with fail)
   refine hK.out _ _ (nD ·) ?_; clear hK K
   try simp only [Act.put, sL]
   refine qA1 (i := 10) rfl kr (fun K hK => ?_); have how' : OwS wd1 wr.heap.size (.slice oa n ca) (qAa m n t (k + 1)) := hod1; obtain ⟨W, hW⟩ : ∃ W : World, W = wd1.alloc (.cells #[.int .i64 m, .slice oa n ca] 26) := ⟨_, rfl⟩; have hWb1 : Below wd1.heap.size wd1 W := (bV hW); have hT : OwLP W (w.heap.size + 1) (.slice (some ⟨bo, off, none⟩) q cv) m (qBy m n t q) := (hO.below hd1).below hWb1; have hU : Rds wr.heap.size wd1.heap.size W (fun x => RdT x (.slice oa n ca) (qAa m n t (k + 1))) := how'.rds.below hWb1; have hC0 : W.cell? ⟨wd1.heap.size, 0, none⟩ = some (.int .i64 m) := (by rw [hW]; simp); have hC1 : W.cell? ⟨wd1.heap.size, 1, none⟩ = some (.slice oa n ca) := (by rw [hW]; simp); have hWb := hd1.trans (hWb1.mono hsd1); have hWz := hWb.size; rw [← hW]; have HW := dd hW; clear hW; refine stLP W rfl _ _ rfl (w.heap.size + 1) (.slice (some ⟨bo, off, none⟩) q cv) m (qBy m n t q) rfl hT Oo _ (qAa m n t (k + 1)) wd1.heap.size rfl hC0 hC1 rfl ⟨_, _, Oo, hU, fun b hb => .inl (hlt2.out b hb).2⟩ (by rw [qDE]; omega) ?_; intro g cap w5 hO5 hgr hb5; have B5 := (hB.trans (hWb.mono hBs)).trans (hb5.mono Oo); have hX5 := ((hX.below hWb).grown hgr (fun hb => by have := hlt2.out _ hb.symm; omega)); refine hK.out _ _ (nD ·) ?_; clear hK K
   try simp only [Act.put, sL]
   refine qA1 (i := 11) rfl kr (fun K hK => ?_); go_simp
   (try go_wp2_with fail)
   refine hK.out _ _ (nD ·) ?_; clear hK K
   try simp only [Act.put, sL]
   refine qAT kr ?_ _
   go_wp2_with fail
   rw [qDE, ← HS.out] at hO5; have hq := HQ.out; go_wp2; exact ⟨⟨k + 1, _, _, Oo, by go_num, by rw [qDE, hq], by rw [hq] at hO5; exact hO5, B5, hX5⟩, by simp [intOf]; omega⟩
  ·obtain hk1 : k + 1 = n := Oo; rw [congrArg (qBy m n t) hk1] at hO; clear hk1; go_wp2; go_ret; exact ⟨_, rfl, hO.mono Oo, hB⟩

end
section

theorem qPE (m : Int) (n : Nat) (t : Tb) (bd bf bp : Nat) (o op : Option Addr) (k kp : Nat) (a b c : Nat) (w : World) (hd : w.cell? ⟨bd, 0, none⟩ = some (.int .i64 ((n : Int) - 1))) (hf : Box2 w bf (.int .i64 m) (.slice o n k)) (hv : RdT w (.slice o n k) t)
  (hp : w.cell? ⟨bp, 0, none⟩ = some (.slice op n kp)) (hP : RdLP w (.slice op n kp) m (qBy m n t n)) (h1 : 1 ≤ n) (hn : n ≤ 1000) (hm : 2 ≤ m) (hm' : m ≤ 10000) (ht : PlaT m n t) (habc : a + b + c < n) :
  Calls Tryz.prog 156 #[.int .i64 a, .int .i64 b, .int .i64 c, .pointer (some ⟨bd, 0, none⟩), .pointer (some ⟨bf, 0, none⟩), .pointer (some ⟨bp, 0, none⟩)] w fun e w' => e = .returned (.int .i64 (qEY m n t a b c)) ∧ ∃ d, w' = w.drewN d := by
 obtain ⟨bt, ft, rfl, -⟩ := hv.rows (by rw [ht.1]; omega)
 obtain ⟨bl, fl, rfl⟩ := hP.base (by rw [qDE]; omega)
 have HT := dd ht
 clear ht
 have m0 : (m == 0) = false := by simp; omega
 have m1 : ¬ m = 0 := Oo
 have a0 : (0 : Int) ≤ (a : Int) := Oo
 have b0 : (0 : Int) ≤ (b : Int) := Oo
 have c0 : (0 : Int) ≤ (c : Int) := Oo
 have ed : IntKind.i64.wrap ((n : Int) - 1 - (c : Int)) = (n : Int) - 1 - (c : Int) := IntWalk.i64_in _ Oo
 have ed' : IntKind.i64.wrap ((n : Int) - 1 - (a : Int)) = (n : Int) - 1 - (a : Int) := IntWalk.i64_in _ Oo
 go_enter Tryz.func156, Tryz.ntmps156
 go_wp2_with fail
 go_loopw [10, 12] (fun s i wr => ∃ j : Nat, j ≤ n - c ∧ i = .int .i64 j ∧ s = .int .i64 (qD1 m n t a b c j) ∧ ∃ d, wr = w.drewN d) (fun _ i _ => n - c - (intOf i).toNat)
 case atStart => exact ⟨0, Nat.zero_le _, rfl, rfl, 0, rfl⟩
 case round =>
  obtain ⟨j, hj, rfl, rfl, d, rfl⟩ := hrel; obtain ⟨f0, f1⟩ := id hf
  by_cases hlt : j < n - c
  ·obtain ⟨r1, hr1, hl1, hj1⟩ := HT.out.row (show j < n by omega); obtain ⟨p1, q1, cx, rx⟩ := hv.row hr1; rw [hl1] at cx rx; obtain ⟨b1, f1', rfl, -⟩ := rx.cells Oo; have ex := rx.cell0 (hj1 c Oo); obtain ⟨o2, k2, y0, y1, hQ⟩ := hP.at (qIS (show j < n by omega)); rw [qFE] at y1 hQ; obtain ⟨b2, f2, rfl, -⟩ := hQ.rows (by rw [qFE]; omega); have hok := qHU (m := m) Oo n t j; obtain ⟨r2, hr2, hl2, hj2⟩ := hok.row (show a < n by omega); obtain ⟨p2, q2, cy, ry⟩ := hQ.row hr2; rw [hl2] at cy ry; obtain ⟨b3, f3, rfl, -⟩ := ry.cells Oo; have ey := ry.cell0 (hj2 b Oo); obtain ⟨-, -, -, -, hxa, hxb⟩ := HT.out.at (i := j) (j := c) Oo; obtain ⟨-, -, -, -, hya, hyb⟩ := hok.at (i := a) (j := b) Oo; obtain ⟨hS0, hS1⟩ := qGw (m := m) Oo hm' (fun i => atT t i c * atT (qAa m n t i) a b) j; have HS := dd (qPu m n t a b c j)
   change 0 ≤ qD1 m n t a b c j at hS0
   change qD1 m n t a b c j ≤ _ at hS1
   clear hr1 hl1 hj1 hr2 hl2 hj2 hok; generalize qD1 m n t a b c j = S at hS0 hS1 HS ⊢; generalize hX' : atT t j c = X at ex hxa hxb HS; generalize hY' : atT (qAa m n t j) a b = Y at ey hya hyb HS; clear hX' hY'; obtain ⟨hM0, hM1⟩ := qCY hxa hya hxb hyb (show m ≤ 3000000000 by omega); have hMm := qA6 (a := X * Y) (show 0 < m by omega); have j0 : (0 : Int) ≤ (j : Int) := Oo; have j1 : (j : Int) < (n : Int) := Oo; have j2 : (j : Int) ≤ (n : Int) - 1 - (c : Int) := Oo; have j3 : (c : Int) < ((n - j : Nat) : Int) := Oo; have j4 : (a : Int) < (n : Int) := Oo; have j5 : (b : Int) < ((n - a : Nat) : Int) := Oo
   go_wp2_with fail
   have e1 : IntKind.i64.wrap (X * Y) = X * Y := IntWalk.i64_in _ Oo; have e2 : (X * Y).tmod m = X * Y % m := Int.tmod_eq_emod_of_nonneg Oo; have e3 : IntKind.i64.wrap (S + X * Y % m) = S + X * Y % m := IntWalk.i64_in _ Oo
   go_quiet (fail)
   go_wp2; exact ⟨⟨j + 1, Oo, by go_num, by rw [HS.out], _, rfl⟩, by simp [intOf]; omega⟩
  ·obtain rfl : j = n - c := Oo; have j2 : ¬ ((n - c : Nat) : Int) ≤ (n : Int) - 1 - (c : Int) := Oo
   go_wp2_with fail
   go_loopw [11, 13] (fun s i wr => ∃ j : Nat, j ≤ n - a ∧ i = .int .i64 j ∧ s = .int .i64 (qD6 m n t a b c j) ∧ ∃ d, wr = w.drewN d) (fun _ i _ => n - a - (intOf i).toNat)
   case atStart => exact ⟨0, Nat.zero_le _, rfl, rfl, d, rfl⟩
   case round =>
    obtain ⟨j, hj, rfl, rfl, d, rfl⟩ := hrel
    by_cases hlt : j < n - a
    ·obtain ⟨r1, hr1, hl1, hj1⟩ := HT.out.row (show a < n by omega); obtain ⟨p1, q1, cx, rx⟩ := hv.row hr1; rw [hl1] at cx rx; obtain ⟨b1, f1', rfl, -⟩ := rx.cells Oo; have ex := rx.cell0 (hj1 j Oo); obtain ⟨o2, k2, y0, y1, hQ⟩ := hP.at (qIS (show j < n by omega)); rw [qFE] at y1 hQ; obtain ⟨b2, f2, rfl, -⟩ := hQ.rows (by rw [qFE]; omega); have hok := qHU (m := m) Oo n t j; obtain ⟨r2, hr2, hl2, hj2⟩ := hok.row (show b < n by omega); obtain ⟨p2, q2, cy, ry⟩ := hQ.row hr2; rw [hl2] at cy ry; obtain ⟨b3, f3, rfl, -⟩ := ry.cells Oo; have ey := ry.cell0 (hj2 c Oo); obtain ⟨-, -, -, -, hxa, hxb⟩ := HT.out.at (i := a) (j := j) Oo; obtain ⟨-, -, -, -, hya, hyb⟩ := hok.at (i := b) (j := c) Oo; obtain ⟨hS0, hS1⟩ := qGw (m := m) Oo hm' (fun j => atT t a j * atT (qAa m n t j) b c) j; have HS := dd (qP9 m n t a b c j)
     change 0 ≤ qD6 m n t a b c j at hS0
     change qD6 m n t a b c j ≤ _ at hS1
     clear hr1 hl1 hj1 hr2 hl2 hj2 hok; generalize qD6 m n t a b c j = S at hS0 hS1 HS ⊢; generalize hX' : atT t a j = X at ex hxa hxb HS; generalize hY' : atT (qAa m n t j) b c = Y at ey hya hyb HS; clear hX' hY'; obtain ⟨hM0, hM1⟩ := qCY hxa hya hxb hyb (show m ≤ 3000000000 by omega); have hMm := qA6 (a := X * Y) (show 0 < m by omega); have j0 : (0 : Int) ≤ (j : Int) := Oo; have j1 : (j : Int) < (n : Int) := Oo; have j2 : (j : Int) ≤ (n : Int) - 1 - (a : Int) := Oo; have j3 : (j : Int) < ((n - a : Nat) : Int) := Oo; have j4 : (a : Int) < (n : Int) := Oo; have j6 : (b : Int) < (n : Int) := Oo; have j5 : (c : Int) < ((n - b : Nat) : Int) := Oo
     go_wp2_with fail
     have e1 : IntKind.i64.wrap (X * Y) = X * Y := IntWalk.i64_in _ Oo; have e2 : (X * Y).tmod m = X * Y % m := Int.tmod_eq_emod_of_nonneg Oo; have e3 : IntKind.i64.wrap (S + X * Y % m) = S + X * Y % m := IntWalk.i64_in _ Oo
     go_quiet (fail)
     go_wp2; exact ⟨⟨j + 1, Oo, by go_num, by rw [HS.out], _, rfl⟩, by simp [intOf]; omega⟩
    ·obtain rfl : j = n - a := Oo; have j2' : ¬ ((n - a : Nat) : Int) ≤ (n : Int) - 1 - (a : Int) := Oo; obtain ⟨hS0, hS1⟩ := qGw (m := m) Oo hm' (fun i => atT t i c * atT (qAa m n t i) a b) (n - c); obtain ⟨hR0, hR1⟩ := qGw (m := m) Oo hm' (fun j => atT t a j * atT (qAa m n t j) b c) (n - a)
     change 0 ≤ qD1 m n t a b c (n - c) at hS0
     change qD1 m n t a b c (n - c) ≤ _ at hS1
     change 0 ≤ qD6 m n t a b c (n - a) at hR0
     change qD6 m n t a b c (n - a) ≤ _ at hR1
     have HD := dd (show qEY m n t a b c = (qD1 m n t a b c (n - c) - qD6 m n t a b c (n - a)) % m from rfl); generalize qD1 m n t a b c (n - c) = S at hS0 hS1 HD ⊢; generalize qD6 m n t a b c (n - a) = R at hR0 hR1 HD ⊢; have e1 : IntKind.i64.wrap (S - R) = S - R := IntWalk.i64_in _ Oo
     go_wp2_with fail
     go_at_call 126
     refine (qBl _ _ _ Oo Oo Oo Oo).mono ?_; rintro e w' ⟨rfl, rfl⟩; go_wp2; go_ret; exact ⟨by rw [HD.out]; rfl, _, rfl⟩
theorem qQ9 : qBf 156 := fun args w => Tryz.call156 args w

end
section

def RB1 (w : World) (b : Nat) (x : Value) : Prop := w.cell? ⟨b, 0, none⟩ = some x ∧ ∀ k, w.frozen? ⟨b, k, none⟩ = false
theorem RB1.lt {w : World} {b : Nat} {x : Value} (h : RB1 w b x) : b < w.heap.size := qBH h.1
theorem RB1.below {B : Nat} {w w' : World} {b : Nat} {x : Value} (h : RB1 w b x) (hb : Below B w w') (hB : w.heap.size ≤ B := by exact Nat.le_refl _) : RB1 w' b x :=
 ⟨qA0 hb hB h.1, fun k => (hb.frozen (p := ⟨b, k, none⟩) (Nat.lt_of_lt_of_le h.lt hB)).trans (h.2 k)⟩
theorem RB1.mk1 (w : World) (x : Value) (t : TypeId) : RB1 (w.alloc (.cells #[x] t)) w.heap.size x := ⟨by simp, qHI w _ t⟩
theorem RB1.two {w : World} {b b' : Nat} {x0 y0 : Value} (h : RB1 w b x0) (h' : RB1 w b' y0) (hne : b ≠ b') (x y : Value) :
  ((w.setCell ⟨b, 0, none⟩ x).setCell ⟨b', 0, none⟩ y).cell? ⟨b, 0, none⟩ = some x ∧ ((w.setCell ⟨b, 0, none⟩ x).setCell ⟨b', 0, none⟩ y).cell? ⟨b', 0, none⟩ = some y := by
 have e1 := h.1
 have e2 := h'.1
 have hne' : b' ≠ b := fun e => hne e.symm
 constructor <;> simp [go_sem, *]

theorem qPG (m : Int) (n : Nat) (v : Value) (t : Tb) (w : World) (hv : RdT w v t) (h1 : 1 ≤ n) (hn : n ≤ 1000) (hm : 2 ≤ m) (hm' : m ≤ 1000000000000) (ht : PlaT m n t) :
  Calls Tryz.prog 82 #[.agg #[.int .i64 m, v]] w fun e w' => ∃ (bd bf bp : Nat) (o op : Option Addr) (k kp : Nat), e = .returned (.func (.func 156) #[] #[.pointer (some ⟨bd, 0, none⟩), .pointer (some ⟨bf, 0, none⟩), .pointer (some ⟨bp, 0, none⟩)]) ∧
   w'.cell? ⟨bd, 0, none⟩ = some (.int .i64 ((n : Int) - 1)) ∧ Box2 w' bf (.int .i64 m) (.slice o n k) ∧ v = .slice o n k ∧ w'.cell? ⟨bp, 0, none⟩ = some (.slice op n kp) ∧ RdLP w' (.slice op n kp) m (qBy m n t n) ∧ Below w.heap.size w w' := by
 obtain ⟨o, c, rfl, hmx, -⟩ := id hv
 have hu : RdT w (.slice o n c) t := by rw [ht.1] at hv; exact hv
 rw [ht.1] at hmx ⊢
 clear hv
 have hml := hmx.1
 unfold maxLen at hmx
 have HT := dd ht
 clear ht
 go_enter Tryz.func82, Tryz.ntmps82
 go_wp2_with fail
 (obtain ⟨w0, hw0⟩ : ∃ W : World, W = (w.alloc (.cells #[.int .i64 m, .slice o n c] 26)) := ⟨_, rfl⟩; have X0 := (RB2.mk1 w  (.int .i64 m) (.slice o n c) 26).1.below (w' := w0) (bV hw0) (nl _); have B0 : Below w.heap.size w w0 := (bV hw0); have hu0 := hu.below (w' := w0) (bV hw0) (nl _); rw [← hw0]; clear hw0)
 obtain ⟨x0, x1⟩ := id X0
 have lX := X0.lt
 go_wp2_with fail
 go_cut [3, 4] (fun sp sd u => ∃ (wz : World) (bp bd : Nat) (op : Option Addr) (kp : Nat), wz = u ∧ sp = .pointer (some ⟨bp, 0, none⟩) ∧ sd = .pointer (some ⟨bd, 0, none⟩) ∧ u.cell? ⟨bd, 0, none⟩ = some (.int .i64 ((n : Int) - 1)) ∧ u.cell? ⟨bp, 0, none⟩ = some (.slice op n kp) ∧ RdLP u (.slice op n kp) m (qBy m n t n) ∧ Below w0.heap.size w0 u)
 case first =>
  have hd0 : Below w0.heap.size w0 w0.drew := (Below.refl _ _).drew; refine qAv (S := fun w' => w'.cell? ⟨w.heap.size, 0, none⟩ = some (.int .i64 m) ∧ w'.cell? ⟨w.heap.size, 1, none⟩ = some (.slice o n c)) [3, 6, 7] kr ?_; refine wKq (by go_keep) fun hHeld => ?_
  refine' tJ 0 hHeld ?_; refine' tJ 2 hHeld ?_; refine qIX (i := 1) (j := 4) (k := 5) kr rfl rfl rfl (fun K hK => ?_) (fun K hK => ?_) (fun K hK => ?_)
  ·as_aux_lemma =>
   go_simp
   go_at_call 155
   refine (qFk m n _ t _ (hu0.below bZ (nl _)) h1 hn hm hm' HT.out).mono ?_; rintro e wp ⟨vp, rfl, hol, hbp⟩; obtain ⟨op, cp, rfl⟩ := hol.shapeN (n := n) (qDE _ _ _ _); have hrp := hol.rds; have hlp := hol.lt; clear hol; have hdp : Below w0.heap.size w0 wp := (bY1 hbp); have hsp := hdp.size; have hzp : w0.heap.size ≤ wp.heap.size := by first | exact hbp.size | (have := hbp.size; simpa using this)
   have fp0 := qA0 hdp (nl _) x0; have fp1 := qA0 hdp (nl _) x1
   go_wp2_with fail
   clear hHeld; refine oKq hK (by go_keep) fun hHeld => ?_
   clear hK K
   try simp only [Act.put, sL]
   refine qIX (i := 3) (j := 4) (k := 5) kr rfl rfl rfl (fun K hK => ?_) (fun K hK => ?_) (fun K hK => ?_)
   ·as_aux_lemma =>
    go_simp
    go_at_call 78
    refine (qB9 m o n c _ hml).mono ?_; rintro e wq ⟨rfl, hbq⟩; have hdq : Below w0.heap.size w0 wq := (bY2 hbp hbq); have hsq := hdq.size; have hzq : wp.heap.size ≤ wq.heap.size := by first | exact hbq.size | (have := hbq.size; simpa using this)
    have fq0 := qA0 hdq (nl _) x0; have fq1 := qA0 hdq (nl _) x1
    go_wp2_with fail
    refine hK.out _ _ (nD ·) ?_; clear hK K
    try simp only [Act.put, sL]
    refine qDU (i := 4) (j := 5) rfl rfl kr (fun K hK => ?_) (fun K hK => ?_)
    ·as_aux_lemma =>
     go_simp; obtain ⟨wa, hwa⟩ : ∃ x : World, x = (wq).alloc (.cells #[.slice none 0 0] 141) := ⟨_, rfl⟩; have hba : Below (wq).heap.size (wq) wa := bV hwa; have A4 : RB1 wa wq.heap.size (.slice none 0 0) := by rw [hwa]; exact RB1.mk1 (wq) _ _
     have ha4 : wq.heap.size < wa.heap.size := A4.lt; have hda : Below w0.heap.size w0 wa := (bY3 hbp hbq hba); have hsa := hda.size; have fa0 := qA0 hda (nl _) x0; have fa1 := qA0 hda (nl _) x1; rw [← hwa]; clear hwa; clear hHeld; refine oKq hK (by go_keep) fun hHeld => ?_
     clear hK K
     try simp only [Act.put, sL]
     refine qA1 (i := 5) rfl kr (fun K hK => ?_); go_simp; obtain ⟨wc, hwc⟩ : ∃ x : World, x = (wa).alloc (.cells #[.int .i64 0] 3) := ⟨_, rfl⟩; have hbc : Below (wa).heap.size (wa) wc := bV hwc; have A5 : RB1 wc wa.heap.size (.int .i64 0) := by rw [hwc]; exact RB1.mk1 (wa) _ _
     have ha5 : wa.heap.size < wc.heap.size := A5.lt; have hdc : Below w0.heap.size w0 wc := (bY4 hbp hbq hba hbc); have hsc := hdc.size; have fc0 := qA0 hdc (nl _) x0; have fc1 := qA0 hdc (nl _) x1; rw [← hwc]; clear hwc; clear hHeld; refine oKq hK (by go_keep) fun hHeld => ?_
     clear hK K
     try simp only [Act.put, sL]
     refine qA1 (i := 6) rfl kr (fun K hK => ?_); have L4 : RB1 wc wq.heap.size (.slice none 0 0) := A4.below (B := wa.heap.size) (bY4 hbp hbq hba hbc) (nl _); have L5 : RB1 wc wa.heap.size (.int .i64 0) := A5.below (B := wc.heap.size) (bY4 hbp hbq hba hbc) (nl _); obtain ⟨a4, a4f⟩ := id L4; obtain ⟨a5, a5f⟩ := id L5; have a4g := a4f 0; have a5g := a5f 0; have hne : wq.heap.size ≠ wa.heap.size := Oo; have hne' : wa.heap.size ≠ wq.heap.size := Oo; have hb4 : w0.heap.size ≤ wq.heap.size := Oo; have hb5 : w0.heap.size ≤ wa.heap.size := Oo; go_simp
     (try go_wp2_with fail)
     refine hK.out _ _ (nD ·) ?_; clear hK K
     try simp only [Act.put, sL]
     refine qA1 (i := 7) rfl kr (fun K hK => ?_); go_simp
     (try go_wp2_with fail)
     refine hK.out _ _ (nD ·) ?_; clear hK K
     try simp only [Act.put, sL]
     refine qAT kr ?_ _
     go_wp2_with fail
     go_meet
     obtain ⟨c4, c5⟩ := L4.two L5 hne (.slice op n cp) (.int .i64 ((n : Int) - 1)); exact ⟨_, _, _, op, cp, rfl, rfl, rfl, c5, c4, (((hrp.belowB (B := wp.heap.size) (bY4 hbp hbq hba hbc) (nl _)).put sz 0 _).put sz 0 _).now, (bY4 hbp hbq hba hbc)⟩
    ·as_aux_lemma =>
     go_simp; obtain ⟨wc, hwc⟩ : ∃ x : World, x = (wq).alloc (.cells #[.int .i64 0] 3) := ⟨_, rfl⟩; have hbc : Below (wq).heap.size (wq) wc := bV hwc; have A5 : RB1 wc wq.heap.size (.int .i64 0) := by rw [hwc]; exact RB1.mk1 (wq) _ _
     have ha5 : wq.heap.size < wc.heap.size := A5.lt; have hdc : Below w0.heap.size w0 wc := (bY3 hbp hbq hbc); have hsc := hdc.size; have fc0 := qA0 hdc (nl _) x0; have fc1 := qA0 hdc (nl _) x1; rw [← hwc]; clear hwc; clear hHeld; refine oKq hK (by go_keep) fun hHeld => ?_
     clear hK K
     try simp only [Act.put, sL]
     refine qA1 (i := 4) rfl kr (fun K hK => ?_); go_simp; obtain ⟨wa, hwa⟩ : ∃ x : World, x = (wc).alloc (.cells #[.slice none 0 0] 141) := ⟨_, rfl⟩; have hba : Below (wc).heap.size (wc) wa := bV hwa; have A4 : RB1 wa wc.heap.size (.slice none 0 0) := by rw [hwa]; exact RB1.mk1 (wc) _ _
     have ha4 : wc.heap.size < wa.heap.size := A4.lt; have hda : Below w0.heap.size w0 wa := (bY4 hbp hbq hbc hba); have hsa := hda.size; have fa0 := qA0 hda (nl _) x0; have fa1 := qA0 hda (nl _) x1; rw [← hwa]; clear hwa; clear hHeld; refine oKq hK (by go_keep) fun hHeld => ?_
     clear hK K
     try simp only [Act.put, sL]
     refine qA1 (i := 6) rfl kr (fun K hK => ?_); have L4 : RB1 wa wc.heap.size (.slice none 0 0) := A4.below (B := wa.heap.size) (bY4 hbp hbq hbc hba) (nl _); have L5 : RB1 wa wq.heap.size (.int .i64 0) := A5.below (B := wc.heap.size) (bY4 hbp hbq hbc hba) (nl _); obtain ⟨a4, a4f⟩ := id L4; obtain ⟨a5, a5f⟩ := id L5; have a4g := a4f 0; have a5g := a5f 0; have hne : wc.heap.size ≠ wq.heap.size := Oo; have hne' : wq.heap.size ≠ wc.heap.size := Oo; have hb4 : w0.heap.size ≤ wc.heap.size := Oo; have hb5 : w0.heap.size ≤ wq.heap.size := Oo; go_simp
     (try go_wp2_with fail)
     refine hK.out _ _ (nD ·) ?_; clear hK K
     try simp only [Act.put, sL]
     refine qA1 (i := 7) rfl kr (fun K hK => ?_); go_simp
     (try go_wp2_with fail)
     refine hK.out _ _ (nD ·) ?_; clear hK K
     try simp only [Act.put, sL]
     refine qAT kr ?_ _
     go_wp2_with fail
     go_meet
     obtain ⟨c4, c5⟩ := L4.two L5 hne (.slice op n cp) (.int .i64 ((n : Int) - 1)); exact ⟨_, _, _, op, cp, rfl, rfl, rfl, c5, c4, (((hrp.belowB (B := wp.heap.size) (bY4 hbp hbq hbc hba) (nl _)).put sz 0 _).put sz 0 _).now, (bY4 hbp hbq hbc hba)⟩
   ·as_aux_lemma =>
    go_simp; obtain ⟨wa, hwa⟩ : ∃ x : World, x = (wp).alloc (.cells #[.slice none 0 0] 141) := ⟨_, rfl⟩; have hba : Below (wp).heap.size (wp) wa := bV hwa; have A4 : RB1 wa wp.heap.size (.slice none 0 0) := by rw [hwa]; exact RB1.mk1 (wp) _ _
    have ha4 : wp.heap.size < wa.heap.size := A4.lt; have hda : Below w0.heap.size w0 wa := (bY2 hbp hba); have hsa := hda.size; have fa0 := qA0 hda (nl _) x0; have fa1 := qA0 hda (nl _) x1; rw [← hwa]; clear hwa; clear hHeld; refine oKq hK (by go_keep) fun hHeld => ?_
    clear hK K
    try simp only [Act.put, sL]
    refine qDU (i := 3) (j := 5) rfl rfl kr (fun K hK => ?_) (fun K hK => ?_)
    ·as_aux_lemma =>
     go_simp
     go_at_call 78
     refine (qB9 m o n c _ hml).mono ?_; rintro e wq ⟨rfl, hbq⟩; have hdq : Below w0.heap.size w0 wq := (bY3 hbp hba hbq); have hsq := hdq.size; have hzq : wa.heap.size ≤ wq.heap.size := by first | exact hbq.size | (have := hbq.size; simpa using this)
     have fq0 := qA0 hdq (nl _) x0; have fq1 := qA0 hdq (nl _) x1
     go_wp2_with fail
     refine hK.out _ _ (nD ·) ?_; clear hK K
     try simp only [Act.put, sL]
     refine qA1 (i := 5) rfl kr (fun K hK => ?_); go_simp; obtain ⟨wc, hwc⟩ : ∃ x : World, x = (wq).alloc (.cells #[.int .i64 0] 3) := ⟨_, rfl⟩; have hbc : Below (wq).heap.size (wq) wc := bV hwc; have A5 : RB1 wc wq.heap.size (.int .i64 0) := by rw [hwc]; exact RB1.mk1 (wq) _ _
     have ha5 : wq.heap.size < wc.heap.size := A5.lt; have hdc : Below w0.heap.size w0 wc := (bY4 hbp hba hbq hbc); have hsc := hdc.size; have fc0 := qA0 hdc (nl _) x0; have fc1 := qA0 hdc (nl _) x1; rw [← hwc]; clear hwc; clear hHeld; refine oKq hK (by go_keep) fun hHeld => ?_
     clear hK K
     try simp only [Act.put, sL]
     refine qA1 (i := 6) rfl kr (fun K hK => ?_); have L4 : RB1 wc wp.heap.size (.slice none 0 0) := A4.below (B := wa.heap.size) (bY4 hbp hba hbq hbc) (nl _); have L5 : RB1 wc wq.heap.size (.int .i64 0) := A5.below (B := wc.heap.size) (bY4 hbp hba hbq hbc) (nl _); obtain ⟨a4, a4f⟩ := id L4; obtain ⟨a5, a5f⟩ := id L5; have a4g := a4f 0; have a5g := a5f 0; have hne : wp.heap.size ≠ wq.heap.size := Oo; have hne' : wq.heap.size ≠ wp.heap.size := Oo; have hb4 : w0.heap.size ≤ wp.heap.size := Oo; have hb5 : w0.heap.size ≤ wq.heap.size := Oo; go_simp
     (try go_wp2_with fail)
     refine hK.out _ _ (nD ·) ?_; clear hK K
     try simp only [Act.put, sL]
     refine qA1 (i := 7) rfl kr (fun K hK => ?_); go_simp
     (try go_wp2_with fail)
     refine hK.out _ _ (nD ·) ?_; clear hK K
     try simp only [Act.put, sL]
     refine qAT kr ?_ _
     go_wp2_with fail
     go_meet
     obtain ⟨c4, c5⟩ := L4.two L5 hne (.slice op n cp) (.int .i64 ((n : Int) - 1)); exact ⟨_, _, _, op, cp, rfl, rfl, rfl, c5, c4, (((hrp.belowB (B := wp.heap.size) (bY4 hbp hba hbq hbc) (nl _)).put sz 0 _).put sz 0 _).now, (bY4 hbp hba hbq hbc)⟩
    ·as_aux_lemma =>
     go_simp; obtain ⟨wc, hwc⟩ : ∃ x : World, x = (wa).alloc (.cells #[.int .i64 0] 3) := ⟨_, rfl⟩; have hbc : Below (wa).heap.size (wa) wc := bV hwc; have A5 : RB1 wc wa.heap.size (.int .i64 0) := by rw [hwc]; exact RB1.mk1 (wa) _ _
     have ha5 : wa.heap.size < wc.heap.size := A5.lt; have hdc : Below w0.heap.size w0 wc := (bY3 hbp hba hbc); have hsc := hdc.size; have fc0 := qA0 hdc (nl _) x0; have fc1 := qA0 hdc (nl _) x1; rw [← hwc]; clear hwc; clear hHeld; refine oKq hK (by go_keep) fun hHeld => ?_
     clear hK K
     try simp only [Act.put, sL]
     refine qA1 (i := 3) rfl kr (fun K hK => ?_); go_simp
     go_at_call 78
     refine (qB9 m o n c _ hml).mono ?_; rintro e wq ⟨rfl, hbq⟩; have hdq : Below w0.heap.size w0 wq := (bY4 hbp hba hbc hbq); have hsq := hdq.size; have hzq : wc.heap.size ≤ wq.heap.size := by first | exact hbq.size | (have := hbq.size; simpa using this)
     have fq0 := qA0 hdq (nl _) x0; have fq1 := qA0 hdq (nl _) x1
     go_wp2_with fail
     refine hK.out _ _ (nD ·) ?_; clear hK K
     try simp only [Act.put, sL]
     refine qA1 (i := 6) rfl kr (fun K hK => ?_); have L4 : RB1 wq wp.heap.size (.slice none 0 0) := A4.below (B := wa.heap.size) (bY4 hbp hba hbc hbq) (nl _); have L5 : RB1 wq wa.heap.size (.int .i64 0) := A5.below (B := wc.heap.size) (bY4 hbp hba hbc hbq) (nl _); obtain ⟨a4, a4f⟩ := id L4; obtain ⟨a5, a5f⟩ := id L5; have a4g := a4f 0; have a5g := a5f 0; have hne : wp.heap.size ≠ wa.heap.size := Oo; have hne' : wa.heap.size ≠ wp.heap.size := Oo; have hb4 : w0.heap.size ≤ wp.heap.size := Oo; have hb5 : w0.heap.size ≤ wa.heap.size := Oo; go_simp
     (try go_wp2_with fail)
     refine hK.out _ _ (nD ·) ?_; clear hK K
     try simp only [Act.put, sL]
     refine qA1 (i := 7) rfl kr (fun K hK => ?_); go_simp
     (try go_wp2_with fail)
     refine hK.out _ _ (nD ·) ?_; clear hK K
     try simp only [Act.put, sL]
     refine qAT kr ?_ _
     go_wp2_with fail
     go_meet
     obtain ⟨c4, c5⟩ := L4.two L5 hne (.slice op n cp) (.int .i64 ((n : Int) - 1)); exact ⟨_, _, _, op, cp, rfl, rfl, rfl, c5, c4, (((hrp.belowB (B := wp.heap.size) (bY4 hbp hba hbc hbq) (nl _)).put sz 0 _).put sz 0 _).now, (bY4 hbp hba hbc hbq)⟩
   ·as_aux_lemma =>
    go_simp; obtain ⟨wc, hwc⟩ : ∃ x : World, x = (wp).alloc (.cells #[.int .i64 0] 3) := ⟨_, rfl⟩; have hbc : Below (wp).heap.size (wp) wc := bV hwc; have A5 : RB1 wc wp.heap.size (.int .i64 0) := by rw [hwc]; exact RB1.mk1 (wp) _ _
    have ha5 : wp.heap.size < wc.heap.size := A5.lt; have hdc : Below w0.heap.size w0 wc := (bY2 hbp hbc); have hsc := hdc.size; have fc0 := qA0 hdc (nl _) x0; have fc1 := qA0 hdc (nl _) x1; rw [← hwc]; clear hwc; clear hHeld; refine oKq hK (by go_keep) fun hHeld => ?_
    clear hK K
    try simp only [Act.put, sL]
    refine qDU (i := 3) (j := 4) rfl rfl kr (fun K hK => ?_) (fun K hK => ?_)
    ·as_aux_lemma =>
     go_simp
     go_at_call 78
     refine (qB9 m o n c _ hml).mono ?_; rintro e wq ⟨rfl, hbq⟩; have hdq : Below w0.heap.size w0 wq := (bY3 hbp hbc hbq); have hsq := hdq.size; have hzq : wc.heap.size ≤ wq.heap.size := by first | exact hbq.size | (have := hbq.size; simpa using this)
     have fq0 := qA0 hdq (nl _) x0; have fq1 := qA0 hdq (nl _) x1
     go_wp2_with fail
     refine hK.out _ _ (nD ·) ?_; clear hK K
     try simp only [Act.put, sL]
     refine qA1 (i := 4) rfl kr (fun K hK => ?_); go_simp; obtain ⟨wa, hwa⟩ : ∃ x : World, x = (wq).alloc (.cells #[.slice none 0 0] 141) := ⟨_, rfl⟩; have hba : Below (wq).heap.size (wq) wa := bV hwa; have A4 : RB1 wa wq.heap.size (.slice none 0 0) := by rw [hwa]; exact RB1.mk1 (wq) _ _
     have ha4 : wq.heap.size < wa.heap.size := A4.lt; have hda : Below w0.heap.size w0 wa := (bY4 hbp hbc hbq hba); have hsa := hda.size; have fa0 := qA0 hda (nl _) x0; have fa1 := qA0 hda (nl _) x1; rw [← hwa]; clear hwa; clear hHeld; refine oKq hK (by go_keep) fun hHeld => ?_
     clear hK K
     try simp only [Act.put, sL]
     refine qA1 (i := 6) rfl kr (fun K hK => ?_); have L4 : RB1 wa wq.heap.size (.slice none 0 0) := A4.below (B := wa.heap.size) (bY4 hbp hbc hbq hba) (nl _); have L5 : RB1 wa wp.heap.size (.int .i64 0) := A5.below (B := wc.heap.size) (bY4 hbp hbc hbq hba) (nl _); obtain ⟨a4, a4f⟩ := id L4; obtain ⟨a5, a5f⟩ := id L5; have a4g := a4f 0; have a5g := a5f 0; have hne : wq.heap.size ≠ wp.heap.size := Oo; have hne' : wp.heap.size ≠ wq.heap.size := Oo; have hb4 : w0.heap.size ≤ wq.heap.size := Oo; have hb5 : w0.heap.size ≤ wp.heap.size := Oo; go_simp
     (try go_wp2_with fail)
     refine hK.out _ _ (nD ·) ?_; clear hK K
     try simp only [Act.put, sL]
     refine qA1 (i := 7) rfl kr (fun K hK => ?_); go_simp
     (try go_wp2_with fail)
     refine hK.out _ _ (nD ·) ?_; clear hK K
     try simp only [Act.put, sL]
     refine qAT kr ?_ _
     go_wp2_with fail
     go_meet
     obtain ⟨c4, c5⟩ := L4.two L5 hne (.slice op n cp) (.int .i64 ((n : Int) - 1)); exact ⟨_, _, _, op, cp, rfl, rfl, rfl, c5, c4, (((hrp.belowB (B := wp.heap.size) (bY4 hbp hbc hbq hba) (nl _)).put sz 0 _).put sz 0 _).now, (bY4 hbp hbc hbq hba)⟩
    ·as_aux_lemma =>
     go_simp; obtain ⟨wa, hwa⟩ : ∃ x : World, x = (wc).alloc (.cells #[.slice none 0 0] 141) := ⟨_, rfl⟩; have hba : Below (wc).heap.size (wc) wa := bV hwa; have A4 : RB1 wa wc.heap.size (.slice none 0 0) := by rw [hwa]; exact RB1.mk1 (wc) _ _
     have ha4 : wc.heap.size < wa.heap.size := A4.lt; have hda : Below w0.heap.size w0 wa := (bY3 hbp hbc hba); have hsa := hda.size; have fa0 := qA0 hda (nl _) x0; have fa1 := qA0 hda (nl _) x1; rw [← hwa]; clear hwa; clear hHeld; refine oKq hK (by go_keep) fun hHeld => ?_
     clear hK K
     try simp only [Act.put, sL]
     refine qA1 (i := 3) rfl kr (fun K hK => ?_); go_simp
     go_at_call 78
     refine (qB9 m o n c _ hml).mono ?_; rintro e wq ⟨rfl, hbq⟩; have hdq : Below w0.heap.size w0 wq := (bY4 hbp hbc hba hbq); have hsq := hdq.size; have hzq : wa.heap.size ≤ wq.heap.size := by first | exact hbq.size | (have := hbq.size; simpa using this)
     have fq0 := qA0 hdq (nl _) x0; have fq1 := qA0 hdq (nl _) x1
     go_wp2_with fail
     refine hK.out _ _ (nD ·) ?_; clear hK K
     try simp only [Act.put, sL]
     refine qA1 (i := 6) rfl kr (fun K hK => ?_); have L4 : RB1 wq wc.heap.size (.slice none 0 0) := A4.below (B := wa.heap.size) (bY4 hbp hbc hba hbq) (nl _); have L5 : RB1 wq wp.heap.size (.int .i64 0) := A5.below (B := wc.heap.size) (bY4 hbp hbc hba hbq) (nl _); obtain ⟨a4, a4f⟩ := id L4; obtain ⟨a5, a5f⟩ := id L5; have a4g := a4f 0; have a5g := a5f 0; have hne : wc.heap.size ≠ wp.heap.size := Oo; have hne' : wp.heap.size ≠ wc.heap.size := Oo; have hb4 : w0.heap.size ≤ wc.heap.size := Oo; have hb5 : w0.heap.size ≤ wp.heap.size := Oo; go_simp
     (try go_wp2_with fail)
     refine hK.out _ _ (nD ·) ?_; clear hK K
     try simp only [Act.put, sL]
     refine qA1 (i := 7) rfl kr (fun K hK => ?_); go_simp
     (try go_wp2_with fail)
     refine hK.out _ _ (nD ·) ?_; clear hK K
     try simp only [Act.put, sL]
     refine qAT kr ?_ _
     go_wp2_with fail
     go_meet
     obtain ⟨c4, c5⟩ := L4.two L5 hne (.slice op n cp) (.int .i64 ((n : Int) - 1)); exact ⟨_, _, _, op, cp, rfl, rfl, rfl, c5, c4, (((hrp.belowB (B := wp.heap.size) (bY4 hbp hbc hba hbq) (nl _)).put sz 0 _).put sz 0 _).now, (bY4 hbp hbc hba hbq)⟩
  ·as_aux_lemma =>
   go_simp; obtain ⟨wa, hwa⟩ : ∃ x : World, x = (w0.alloc (.cells #[.slice none 0 0] 141)).drew := ⟨_, rfl⟩; have hba : Below (w0).heap.size (w0) wa := bV hwa; have A4 : RB1 wa w0.heap.size (.slice none 0 0) := by rw [hwa]; exact RB1.mk1 (w0) _ _
   have ha4 : w0.heap.size < wa.heap.size := A4.lt; have hda : Below w0.heap.size w0 wa := (bY1 hba); have hsa := hda.size; have fa0 := qA0 hda (nl _) x0; have fa1 := qA0 hda (nl _) x1; rw [← hwa]; clear hwa; clear hHeld; refine oKq hK (by go_keep) fun hHeld => ?_
   clear hK K
   try simp only [Act.put, sL]
   refine qDU (i := 1) (j := 5) rfl rfl kr (fun K hK => ?_) (fun K hK => ?_)
   ·as_aux_lemma =>
    go_simp
    go_at_call 155
    refine (qFk m n _ t _ (hu0.below (bY1 hba) (nl _)) h1 hn hm hm' HT.out).mono ?_; rintro e wp ⟨vp, rfl, hol, hbp⟩; obtain ⟨op, cp, rfl⟩ := hol.shapeN (n := n) (qDE _ _ _ _); have hrp := hol.rds; have hlp := hol.lt; clear hol; have hdp : Below w0.heap.size w0 wp := (bY2 hba hbp); have hsp := hdp.size; have hzp : wa.heap.size ≤ wp.heap.size := by first | exact hbp.size | (have := hbp.size; simpa using this)
    have fp0 := qA0 hdp (nl _) x0; have fp1 := qA0 hdp (nl _) x1
    go_wp2_with fail
    clear hHeld; refine oKq hK (by go_keep) fun hHeld => ?_
    clear hK K
    try simp only [Act.put, sL]
    refine qDU (i := 3) (j := 5) rfl rfl kr (fun K hK => ?_) (fun K hK => ?_)
    ·as_aux_lemma =>
     go_simp
     go_at_call 78
     refine (qB9 m o n c _ hml).mono ?_; rintro e wq ⟨rfl, hbq⟩; have hdq : Below w0.heap.size w0 wq := (bY3 hba hbp hbq); have hsq := hdq.size; have hzq : wp.heap.size ≤ wq.heap.size := by first | exact hbq.size | (have := hbq.size; simpa using this)
     have fq0 := qA0 hdq (nl _) x0; have fq1 := qA0 hdq (nl _) x1
     go_wp2_with fail
     refine hK.out _ _ (nD ·) ?_; clear hK K
     try simp only [Act.put, sL]
     refine qA1 (i := 5) rfl kr (fun K hK => ?_); go_simp; obtain ⟨wc, hwc⟩ : ∃ x : World, x = (wq).alloc (.cells #[.int .i64 0] 3) := ⟨_, rfl⟩; have hbc : Below (wq).heap.size (wq) wc := bV hwc; have A5 : RB1 wc wq.heap.size (.int .i64 0) := by rw [hwc]; exact RB1.mk1 (wq) _ _
     have ha5 : wq.heap.size < wc.heap.size := A5.lt; have hdc : Below w0.heap.size w0 wc := (bY4 hba hbp hbq hbc); have hsc := hdc.size; have fc0 := qA0 hdc (nl _) x0; have fc1 := qA0 hdc (nl _) x1; rw [← hwc]; clear hwc; clear hHeld; refine oKq hK (by go_keep) fun hHeld => ?_
     clear hK K
     try simp only [Act.put, sL]
     refine qA1 (i := 6) rfl kr (fun K hK => ?_); have L4 : RB1 wc w0.heap.size (.slice none 0 0) := A4.below (B := wa.heap.size) (bY4 hba hbp hbq hbc) (nl _); have L5 : RB1 wc wq.heap.size (.int .i64 0) := A5.below (B := wc.heap.size) (bY4 hba hbp hbq hbc) (nl _); obtain ⟨a4, a4f⟩ := id L4; obtain ⟨a5, a5f⟩ := id L5; have a4g := a4f 0; have a5g := a5f 0; have hne : w0.heap.size ≠ wq.heap.size := Oo; have hne' : wq.heap.size ≠ w0.heap.size := Oo; have hb4 : w0.heap.size ≤ w0.heap.size := Oo; have hb5 : w0.heap.size ≤ wq.heap.size := Oo; go_simp
     (try go_wp2_with fail)
     refine hK.out _ _ (nD ·) ?_; clear hK K
     try simp only [Act.put, sL]
     refine qA1 (i := 7) rfl kr (fun K hK => ?_); go_simp
     (try go_wp2_with fail)
     refine hK.out _ _ (nD ·) ?_; clear hK K
     try simp only [Act.put, sL]
     refine qAT kr ?_ _
     go_wp2_with fail
     go_meet
     obtain ⟨c4, c5⟩ := L4.two L5 hne (.slice op n cp) (.int .i64 ((n : Int) - 1)); exact ⟨_, _, _, op, cp, rfl, rfl, rfl, c5, c4, (((hrp.belowB (B := wp.heap.size) (bY4 hba hbp hbq hbc) (nl _)).put sz 0 _).put sz 0 _).now, (bY4 hba hbp hbq hbc)⟩
    ·as_aux_lemma =>
     go_simp; obtain ⟨wc, hwc⟩ : ∃ x : World, x = (wp).alloc (.cells #[.int .i64 0] 3) := ⟨_, rfl⟩; have hbc : Below (wp).heap.size (wp) wc := bV hwc; have A5 : RB1 wc wp.heap.size (.int .i64 0) := by rw [hwc]; exact RB1.mk1 (wp) _ _
     have ha5 : wp.heap.size < wc.heap.size := A5.lt; have hdc : Below w0.heap.size w0 wc := (bY3 hba hbp hbc); have hsc := hdc.size; have fc0 := qA0 hdc (nl _) x0; have fc1 := qA0 hdc (nl _) x1; rw [← hwc]; clear hwc; clear hHeld; refine oKq hK (by go_keep) fun hHeld => ?_
     clear hK K
     try simp only [Act.put, sL]
     refine qA1 (i := 3) rfl kr (fun K hK => ?_); go_simp
     go_at_call 78
     refine (qB9 m o n c _ hml).mono ?_; rintro e wq ⟨rfl, hbq⟩; have hdq : Below w0.heap.size w0 wq := (bY4 hba hbp hbc hbq); have hsq := hdq.size; have hzq : wc.heap.size ≤ wq.heap.size := by first | exact hbq.size | (have := hbq.size; simpa using this)
     have fq0 := qA0 hdq (nl _) x0; have fq1 := qA0 hdq (nl _) x1
     go_wp2_with fail
     refine hK.out _ _ (nD ·) ?_; clear hK K
     try simp only [Act.put, sL]
     refine qA1 (i := 6) rfl kr (fun K hK => ?_); have L4 : RB1 wq w0.heap.size (.slice none 0 0) := A4.below (B := wa.heap.size) (bY4 hba hbp hbc hbq) (nl _); have L5 : RB1 wq wp.heap.size (.int .i64 0) := A5.below (B := wc.heap.size) (bY4 hba hbp hbc hbq) (nl _); obtain ⟨a4, a4f⟩ := id L4; obtain ⟨a5, a5f⟩ := id L5; have a4g := a4f 0; have a5g := a5f 0; have hne : w0.heap.size ≠ wp.heap.size := Oo; have hne' : wp.heap.size ≠ w0.heap.size := Oo; have hb4 : w0.heap.size ≤ w0.heap.size := Oo; have hb5 : w0.heap.size ≤ wp.heap.size := Oo; go_simp
     (try go_wp2_with fail)
     refine hK.out _ _ (nD ·) ?_; clear hK K
     try simp only [Act.put, sL]
     refine qA1 (i := 7) rfl kr (fun K hK => ?_); go_simp
     (try go_wp2_with fail)
     refine hK.out _ _ (nD ·) ?_; clear hK K
     try simp only [Act.put, sL]
     refine qAT kr ?_ _
     go_wp2_with fail
     go_meet
     obtain ⟨c4, c5⟩ := L4.two L5 hne (.slice op n cp) (.int .i64 ((n : Int) - 1)); exact ⟨_, _, _, op, cp, rfl, rfl, rfl, c5, c4, (((hrp.belowB (B := wp.heap.size) (bY4 hba hbp hbc hbq) (nl _)).put sz 0 _).put sz 0 _).now, (bY4 hba hbp hbc hbq)⟩
   ·as_aux_lemma =>
    go_simp; obtain ⟨wc, hwc⟩ : ∃ x : World, x = (wa).alloc (.cells #[.int .i64 0] 3) := ⟨_, rfl⟩; have hbc : Below (wa).heap.size (wa) wc := bV hwc; have A5 : RB1 wc wa.heap.size (.int .i64 0) := by rw [hwc]; exact RB1.mk1 (wa) _ _
    have ha5 : wa.heap.size < wc.heap.size := A5.lt; have hdc : Below w0.heap.size w0 wc := (bY2 hba hbc); have hsc := hdc.size; have fc0 := qA0 hdc (nl _) x0; have fc1 := qA0 hdc (nl _) x1; rw [← hwc]; clear hwc; clear hHeld; refine oKq hK (by go_keep) fun hHeld => ?_
    clear hK K
    try simp only [Act.put, sL]
    refine qA1 (i := 1) rfl kr (fun K hK => ?_); go_simp
    go_at_call 155
    refine (qFk m n _ t _ (hu0.below (bY2 hba hbc) (nl _)) h1 hn hm hm' HT.out).mono ?_; rintro e wp ⟨vp, rfl, hol, hbp⟩; obtain ⟨op, cp, rfl⟩ := hol.shapeN (n := n) (qDE _ _ _ _); have hrp := hol.rds; have hlp := hol.lt; clear hol; have hdp : Below w0.heap.size w0 wp := (bY3 hba hbc hbp); have hsp := hdp.size; have hzp : wc.heap.size ≤ wp.heap.size := by first | exact hbp.size | (have := hbp.size; simpa using this)
    have fp0 := qA0 hdp (nl _) x0; have fp1 := qA0 hdp (nl _) x1
    go_wp2_with fail
    clear hHeld; refine oKq hK (by go_keep) fun hHeld => ?_
    clear hK K
    try simp only [Act.put, sL]
    refine qA1 (i := 3) rfl kr (fun K hK => ?_); go_simp
    go_at_call 78
    refine (qB9 m o n c _ hml).mono ?_; rintro e wq ⟨rfl, hbq⟩; have hdq : Below w0.heap.size w0 wq := (bY4 hba hbc hbp hbq); have hsq := hdq.size; have hzq : wp.heap.size ≤ wq.heap.size := by first | exact hbq.size | (have := hbq.size; simpa using this)
    have fq0 := qA0 hdq (nl _) x0; have fq1 := qA0 hdq (nl _) x1
    go_wp2_with fail
    refine hK.out _ _ (nD ·) ?_; clear hK K
    try simp only [Act.put, sL]
    refine qA1 (i := 6) rfl kr (fun K hK => ?_); have L4 : RB1 wq w0.heap.size (.slice none 0 0) := A4.below (B := wa.heap.size) (bY4 hba hbc hbp hbq) (nl _); have L5 : RB1 wq wa.heap.size (.int .i64 0) := A5.below (B := wc.heap.size) (bY4 hba hbc hbp hbq) (nl _); obtain ⟨a4, a4f⟩ := id L4; obtain ⟨a5, a5f⟩ := id L5; have a4g := a4f 0; have a5g := a5f 0; have hne : w0.heap.size ≠ wa.heap.size := Oo; have hne' : wa.heap.size ≠ w0.heap.size := Oo; have hb4 : w0.heap.size ≤ w0.heap.size := Oo; have hb5 : w0.heap.size ≤ wa.heap.size := Oo; go_simp
    (try go_wp2_with fail)
    refine hK.out _ _ (nD ·) ?_; clear hK K
    try simp only [Act.put, sL]
    refine qA1 (i := 7) rfl kr (fun K hK => ?_); go_simp
    (try go_wp2_with fail)
    refine hK.out _ _ (nD ·) ?_; clear hK K
    try simp only [Act.put, sL]
    refine qAT kr ?_ _
    go_wp2_with fail
    go_meet
    obtain ⟨c4, c5⟩ := L4.two L5 hne (.slice op n cp) (.int .i64 ((n : Int) - 1)); exact ⟨_, _, _, op, cp, rfl, rfl, rfl, c5, c4, (((hrp.belowB (B := wp.heap.size) (bY4 hba hbc hbp hbq) (nl _)).put sz 0 _).put sz 0 _).now, (bY4 hba hbc hbp hbq)⟩
  ·as_aux_lemma =>
   go_simp; obtain ⟨wc, hwc⟩ : ∃ x : World, x = (w0.alloc (.cells #[.int .i64 0] 3)).drew := ⟨_, rfl⟩; have hbc : Below (w0).heap.size (w0) wc := bV hwc; have A5 : RB1 wc w0.heap.size (.int .i64 0) := by rw [hwc]; exact RB1.mk1 (w0) _ _
   have ha5 : w0.heap.size < wc.heap.size := A5.lt; have hdc : Below w0.heap.size w0 wc := (bY1 hbc); have hsc := hdc.size; have fc0 := qA0 hdc (nl _) x0; have fc1 := qA0 hdc (nl _) x1; rw [← hwc]; clear hwc; clear hHeld; refine oKq hK (by go_keep) fun hHeld => ?_
   clear hK K
   try simp only [Act.put, sL]
   refine qDU (i := 1) (j := 4) rfl rfl kr (fun K hK => ?_) (fun K hK => ?_)
   ·as_aux_lemma =>
    go_simp
    go_at_call 155
    refine (qFk m n _ t _ (hu0.below (bY1 hbc) (nl _)) h1 hn hm hm' HT.out).mono ?_; rintro e wp ⟨vp, rfl, hol, hbp⟩; obtain ⟨op, cp, rfl⟩ := hol.shapeN (n := n) (qDE _ _ _ _); have hrp := hol.rds; have hlp := hol.lt; clear hol; have hdp : Below w0.heap.size w0 wp := (bY2 hbc hbp); have hsp := hdp.size; have hzp : wc.heap.size ≤ wp.heap.size := by first | exact hbp.size | (have := hbp.size; simpa using this)
    have fp0 := qA0 hdp (nl _) x0; have fp1 := qA0 hdp (nl _) x1
    go_wp2_with fail
    clear hHeld; refine oKq hK (by go_keep) fun hHeld => ?_
    clear hK K
    try simp only [Act.put, sL]
    refine qDU (i := 3) (j := 4) rfl rfl kr (fun K hK => ?_) (fun K hK => ?_)
    ·as_aux_lemma =>
     go_simp
     go_at_call 78
     refine (qB9 m o n c _ hml).mono ?_; rintro e wq ⟨rfl, hbq⟩; have hdq : Below w0.heap.size w0 wq := (bY3 hbc hbp hbq); have hsq := hdq.size; have hzq : wp.heap.size ≤ wq.heap.size := by first | exact hbq.size | (have := hbq.size; simpa using this)
     have fq0 := qA0 hdq (nl _) x0; have fq1 := qA0 hdq (nl _) x1
     go_wp2_with fail
     refine hK.out _ _ (nD ·) ?_; clear hK K
     try simp only [Act.put, sL]
     refine qA1 (i := 4) rfl kr (fun K hK => ?_); go_simp; obtain ⟨wa, hwa⟩ : ∃ x : World, x = (wq).alloc (.cells #[.slice none 0 0] 141) := ⟨_, rfl⟩; have hba : Below (wq).heap.size (wq) wa := bV hwa; have A4 : RB1 wa wq.heap.size (.slice none 0 0) := by rw [hwa]; exact RB1.mk1 (wq) _ _
     have ha4 : wq.heap.size < wa.heap.size := A4.lt; have hda : Below w0.heap.size w0 wa := (bY4 hbc hbp hbq hba); have hsa := hda.size; have fa0 := qA0 hda (nl _) x0; have fa1 := qA0 hda (nl _) x1; rw [← hwa]; clear hwa; clear hHeld; refine oKq hK (by go_keep) fun hHeld => ?_
     clear hK K
     try simp only [Act.put, sL]
     refine qA1 (i := 6) rfl kr (fun K hK => ?_); have L4 : RB1 wa wq.heap.size (.slice none 0 0) := A4.below (B := wa.heap.size) (bY4 hbc hbp hbq hba) (nl _); have L5 : RB1 wa w0.heap.size (.int .i64 0) := A5.below (B := wc.heap.size) (bY4 hbc hbp hbq hba) (nl _); obtain ⟨a4, a4f⟩ := id L4; obtain ⟨a5, a5f⟩ := id L5; have a4g := a4f 0; have a5g := a5f 0; have hne : wq.heap.size ≠ w0.heap.size := Oo; have hne' : w0.heap.size ≠ wq.heap.size := Oo; have hb4 : w0.heap.size ≤ wq.heap.size := Oo; have hb5 : w0.heap.size ≤ w0.heap.size := Oo; go_simp
     (try go_wp2_with fail)
     refine hK.out _ _ (nD ·) ?_; clear hK K
     try simp only [Act.put, sL]
     refine qA1 (i := 7) rfl kr (fun K hK => ?_); go_simp
     (try go_wp2_with fail)
     refine hK.out _ _ (nD ·) ?_; clear hK K
     try simp only [Act.put, sL]
     refine qAT kr ?_ _
     go_wp2_with fail
     go_meet
     obtain ⟨c4, c5⟩ := L4.two L5 hne (.slice op n cp) (.int .i64 ((n : Int) - 1)); exact ⟨_, _, _, op, cp, rfl, rfl, rfl, c5, c4, (((hrp.belowB (B := wp.heap.size) (bY4 hbc hbp hbq hba) (nl _)).put sz 0 _).put sz 0 _).now, (bY4 hbc hbp hbq hba)⟩
    ·as_aux_lemma =>
     go_simp; obtain ⟨wa, hwa⟩ : ∃ x : World, x = (wp).alloc (.cells #[.slice none 0 0] 141) := ⟨_, rfl⟩; have hba : Below (wp).heap.size (wp) wa := bV hwa; have A4 : RB1 wa wp.heap.size (.slice none 0 0) := by rw [hwa]; exact RB1.mk1 (wp) _ _
     have ha4 : wp.heap.size < wa.heap.size := A4.lt; have hda : Below w0.heap.size w0 wa := (bY3 hbc hbp hba); have hsa := hda.size; have fa0 := qA0 hda (nl _) x0; have fa1 := qA0 hda (nl _) x1; rw [← hwa]; clear hwa; clear hHeld; refine oKq hK (by go_keep) fun hHeld => ?_
     clear hK K
     try simp only [Act.put, sL]
     refine qA1 (i := 3) rfl kr (fun K hK => ?_); go_simp
     go_at_call 78
     refine (qB9 m o n c _ hml).mono ?_; rintro e wq ⟨rfl, hbq⟩; have hdq : Below w0.heap.size w0 wq := (bY4 hbc hbp hba hbq); have hsq := hdq.size; have hzq : wa.heap.size ≤ wq.heap.size := by first | exact hbq.size | (have := hbq.size; simpa using this)
     have fq0 := qA0 hdq (nl _) x0; have fq1 := qA0 hdq (nl _) x1
     go_wp2_with fail
     refine hK.out _ _ (nD ·) ?_; clear hK K
     try simp only [Act.put, sL]
     refine qA1 (i := 6) rfl kr (fun K hK => ?_); have L4 : RB1 wq wp.heap.size (.slice none 0 0) := A4.below (B := wa.heap.size) (bY4 hbc hbp hba hbq) (nl _); have L5 : RB1 wq w0.heap.size (.int .i64 0) := A5.below (B := wc.heap.size) (bY4 hbc hbp hba hbq) (nl _); obtain ⟨a4, a4f⟩ := id L4; obtain ⟨a5, a5f⟩ := id L5; have a4g := a4f 0; have a5g := a5f 0; have hne : wp.heap.size ≠ w0.heap.size := Oo; have hne' : w0.heap.size ≠ wp.heap.size := Oo; have hb4 : w0.heap.size ≤ wp.heap.size := Oo; have hb5 : w0.heap.size ≤ w0.heap.size := Oo; go_simp
     (try go_wp2_with fail)
     refine hK.out _ _ (nD ·) ?_; clear hK K
     try simp only [Act.put, sL]
     refine qA1 (i := 7) rfl kr (fun K hK => ?_); go_simp
     (try go_wp2_with fail)
     refine hK.out _ _ (nD ·) ?_; clear hK K
     try simp only [Act.put, sL]
     refine qAT kr ?_ _
     go_wp2_with fail
     go_meet
     obtain ⟨c4, c5⟩ := L4.two L5 hne (.slice op n cp) (.int .i64 ((n : Int) - 1)); exact ⟨_, _, _, op, cp, rfl, rfl, rfl, c5, c4, (((hrp.belowB (B := wp.heap.size) (bY4 hbc hbp hba hbq) (nl _)).put sz 0 _).put sz 0 _).now, (bY4 hbc hbp hba hbq)⟩
   ·as_aux_lemma =>
    go_simp; obtain ⟨wa, hwa⟩ : ∃ x : World, x = (wc).alloc (.cells #[.slice none 0 0] 141) := ⟨_, rfl⟩; have hba : Below (wc).heap.size (wc) wa := bV hwa; have A4 : RB1 wa wc.heap.size (.slice none 0 0) := by rw [hwa]; exact RB1.mk1 (wc) _ _
    have ha4 : wc.heap.size < wa.heap.size := A4.lt; have hda : Below w0.heap.size w0 wa := (bY2 hbc hba); have hsa := hda.size; have fa0 := qA0 hda (nl _) x0; have fa1 := qA0 hda (nl _) x1; rw [← hwa]; clear hwa; clear hHeld; refine oKq hK (by go_keep) fun hHeld => ?_
    clear hK K
    try simp only [Act.put, sL]
    refine qA1 (i := 1) rfl kr (fun K hK => ?_); go_simp
    go_at_call 155
    refine (qFk m n _ t _ (hu0.below (bY2 hbc hba) (nl _)) h1 hn hm hm' HT.out).mono ?_; rintro e wp ⟨vp, rfl, hol, hbp⟩; obtain ⟨op, cp, rfl⟩ := hol.shapeN (n := n) (qDE _ _ _ _); have hrp := hol.rds; have hlp := hol.lt; clear hol; have hdp : Below w0.heap.size w0 wp := (bY3 hbc hba hbp); have hsp := hdp.size; have hzp : wa.heap.size ≤ wp.heap.size := by first | exact hbp.size | (have := hbp.size; simpa using this)
    have fp0 := qA0 hdp (nl _) x0; have fp1 := qA0 hdp (nl _) x1
    go_wp2_with fail
    clear hHeld; refine oKq hK (by go_keep) fun hHeld => ?_
    clear hK K
    try simp only [Act.put, sL]
    refine qA1 (i := 3) rfl kr (fun K hK => ?_); go_simp
    go_at_call 78
    refine (qB9 m o n c _ hml).mono ?_; rintro e wq ⟨rfl, hbq⟩; have hdq : Below w0.heap.size w0 wq := (bY4 hbc hba hbp hbq); have hsq := hdq.size; have hzq : wp.heap.size ≤ wq.heap.size := by first | exact hbq.size | (have := hbq.size; simpa using this)
    have fq0 := qA0 hdq (nl _) x0; have fq1 := qA0 hdq (nl _) x1
    go_wp2_with fail
    refine hK.out _ _ (nD ·) ?_; clear hK K
    try simp only [Act.put, sL]
    refine qA1 (i := 6) rfl kr (fun K hK => ?_); have L4 : RB1 wq wc.heap.size (.slice none 0 0) := A4.below (B := wa.heap.size) (bY4 hbc hba hbp hbq) (nl _); have L5 : RB1 wq w0.heap.size (.int .i64 0) := A5.below (B := wc.heap.size) (bY4 hbc hba hbp hbq) (nl _); obtain ⟨a4, a4f⟩ := id L4; obtain ⟨a5, a5f⟩ := id L5; have a4g := a4f 0; have a5g := a5f 0; have hne : wc.heap.size ≠ w0.heap.size := Oo; have hne' : w0.heap.size ≠ wc.heap.size := Oo; have hb4 : w0.heap.size ≤ wc.heap.size := Oo; have hb5 : w0.heap.size ≤ w0.heap.size := Oo; go_simp
    (try go_wp2_with fail)
    refine hK.out _ _ (nD ·) ?_; clear hK K
    try simp only [Act.put, sL]
    refine qA1 (i := 7) rfl kr (fun K hK => ?_); go_simp
    (try go_wp2_with fail)
    refine hK.out _ _ (nD ·) ?_; clear hK K
    try simp only [Act.put, sL]
    refine qAT kr ?_ _
    go_wp2_with fail
    go_meet
    obtain ⟨c4, c5⟩ := L4.two L5 hne (.slice op n cp) (.int .i64 ((n : Int) - 1)); exact ⟨_, _, _, op, cp, rfl, rfl, rfl, c5, c4, (((hrp.belowB (B := wp.heap.size) (bY4 hbc hba hbp hbq) (nl _)).put sz 0 _).put sz 0 _).now, (bY4 hbc hba hbp hbq)⟩
 case rest =>
  obtain ⟨w1, bp, bd, op, kp, rfl, rfl, rfl, hcd, hcp, hR, hb⟩ := hcut; have B1 := B0.trans (hb.mono B0.size); have X1 := X0.below hb; go_wp2; go_ret; exact ⟨bd, w.heap.size, bp, o, op, c, kp, rfl, hcd, X1, rfl, hcp, hR, B1⟩
end
section

theorem qGD {k : Nat} (h : ((k : Int) == 1) = true) : qBM k = 1 := by
 have : (k : Int) = 1 := by simpa using h
 unfold qBM; rw [if_pos Oo]
theorem qGM {k : Nat} (h : ((k : Int) == 1) = false) : qBM k = 0 := by
 have : ¬ (k : Int) = 1 := by simpa using h
 unfold qBM; rw [if_neg Oo]
def FEnd (w w' : World) (l : Li) (e : Ending) : Prop := ∃ v', e = .returned v' ∧ OwI w' w.heap.size v' l ∧ (l = [] → v' = .slice none 0 0) ∧ Below w.heap.size w w'
theorem FEnd.nil {w w' : World} {l : Li} (h : l = []) (hb : Below w.heap.size w w') : FEnd w w' l (.returned (.slice none 0 0)) := ⟨_, rfl, by rw [h]; exact OwI.nil _ _, fun _ => rfl, hb⟩
theorem FEnd.lit {w W : World} {l : Li} {ys : Li} {n : Nat} (h : l = ys) (hne : ys ≠ []) (hl : ys.length = n) (hm : n ≤ 4) (hs : w.heap.size ≤ W.heap.size) (hb : Below w.heap.size w W) :
  FEnd w (W.alloc (.cells (ys.map (Value.int .i64)).toArray 2)) l (.returned (.slice (some ⟨W.heap.size, 0, none⟩) n n)) := by
 subst h hl
 exact ⟨_, rfl, (OwI.lit W l (by unfold maxLen; omega)).mono hs, fun h => absurd h hne, hb.alloc hs _⟩

theorem qOw (m : Int) (n : Nat) (v : Value) (t : Tb) (w : World) (hv : RdT w v t) (h1 : 1 ≤ n) (hn : n ≤ 1000) (hm : 2 ≤ m) (hm' : m ≤ 10000) (ht : PlaT m n t) :
  Calls Tryz.prog 40 #[.agg #[.int .i64 m, v]] w fun e w' => FEnd w w' (qAV m t n) e := by
 obtain ⟨o, c, rfl, hmx, -⟩ := id hv
 have hu : RdT w (.slice o n c) t := by rw [ht.1] at hv; exact hv
 rw [ht.1] at hmx ⊢
 clear hv
 have hml := hmx.1
 unfold maxLen at hmx
 have HT := dd ht
 obtain ⟨bt, ft, rfl, -⟩ := hu.rows (by rw [ht.1]; omega)
 clear ht
 go_enter Tryz.func40, Tryz.ntmps40
 go_wp2_with fail
 (obtain ⟨w0, hw0⟩ : ∃ W : World, W = (w.alloc (.cells #[.int .i64 m, .slice (some ⟨bt, ft, none⟩) n c] 26)) := ⟨_, rfl⟩; have X0 := (RB2.mk1 w  (.int .i64 m) (.slice (some ⟨bt, ft, none⟩) n c) 26).1.below (w' := w0) (bV hw0) (nl _); have B0 : Below w.heap.size w w0 := (bV hw0); have hu0 := hu.below (w' := w0) (bV hw0) (nl _); rw [← hw0]; clear hw0)
 have B0s := B0.size
 obtain ⟨x0, x1⟩ := id X0
 go_wp2_with fail
 go_loopw [16] (fun s wr => ∃ k : Nat, k ≤ n ∧ s = .int .i64 k ∧ Hid (∀ j, j < k → atT t j 0 = qBM j) ∧ ∃ d, wr = w0.drewN d) (fun i _ => n - (intOf i).toNat)
 case atStart => exact ⟨0, Nat.zero_le _, rfl, dd (fun j hj => Oo), 0, rfl⟩
 case round =>
  obtain ⟨k, hk, rfl, HQ, d, rfl⟩ := hrel
  by_cases hlt : k < n
  ·obtain ⟨r1, hr1, hl1, hj1⟩ := HT.out.row hlt; obtain ⟨p1, q1, cx, rx⟩ := hu0.row hr1; rw [hl1] at cx rx; obtain ⟨b1, f1, rfl, -⟩ := rx.cells Oo; have ex := rx.cell0 (hj1 0 Oo); rw [Nat.add_zero] at ex; clear hr1 hl1 hj1; have i0 : (0 : Int) ≤ (k : Int) := Oo; have i1 : (k : Int) < (n : Int) := Oo; have i2 : (0 : Int) < ((n - k : Nat) : Int) := Oo; have i3 : 0 < n - k := Oo; cases hk1 : ((k : Int) == 1)
   ·cases hx : (atT t k 0 != 0)
    ·have HE := dd (show atT t k 0 = qBM k by rw [qGM hk1]; simpa using hx); go_wp2
     exact ⟨⟨k + 1, Oo, by go_num, dd (fun j hj => by
      rcases Nat.lt_or_ge j k with h | h
      ·exact HQ.out j h
      ·obtain rfl : j = k := Oo; exact HE.out), _, rfl⟩, by simp [intOf]; omega⟩
    ·have HE := dd (show qAV m t n = [0, (k : Int)] from qG1 hlt HQ.out (by rw [qGM hk1]; simpa using hx)); go_wp2; go_ret; exact FEnd.lit (n := 2) (W := w0.drewN d) (ys := [0, (k : Int)]) HE.out (by simp) rfl Oo sz (bY1 B0)
   ·cases hx : (atT t k 0 != 1)
    ·have HE := dd (show atT t k 0 = qBM k by rw [qGD hk1]; simpa using hx); go_wp2
     exact ⟨⟨k + 1, Oo, by go_num, dd (fun j hj => by
      rcases Nat.lt_or_ge j k with h | h
      ·exact HQ.out j h
      ·obtain rfl : j = k := Oo; exact HE.out), _, rfl⟩, by simp [intOf]; omega⟩
    ·have HE := dd (show qAV m t n = [0, (k : Int)] from qG1 hlt HQ.out (by rw [qGD hk1]; simpa using hx)); go_wp2; go_ret; exact FEnd.lit (n := 2) (W := w0.drewN d) (ys := [0, (k : Int)]) HE.out (by simp) rfl Oo sz (bY1 B0)
  ·obtain rfl : k = n := Oo; have H1 := HQ; clear HQ
   go_wp2_with fail
   go_loopw [36] (fun s wr => ∃ i : Nat, i ≤ k ∧ s = .int .i64 i ∧ Hid (∀ i', i' < i → ∀ j', i' < j' → i' + j' < k → atT t i' j' = atT t j' i') ∧ ∃ d, wr = w0.drewN d) (fun i _ => k - (intOf i).toNat)
   case atStart => exact ⟨0, Nat.zero_le _, rfl, dd (fun j hj => Oo), d, rfl⟩
   case round =>
    obtain ⟨i, hi, rfl, HA, d, rfl⟩ := hrel
    by_cases hlt : i < k
    ·obtain ⟨r1, hr1, hl1, hj1⟩ := HT.out.row hlt; obtain ⟨p1, q1, cx, rx⟩ := hu0.row hr1; rw [hl1] at cx rx; obtain ⟨b1, f1, rfl, -⟩ := rx.cells Oo; have HJ := dd hj1; clear hr1 hl1 hj1; have i0 : (0 : Int) ≤ (i : Int) := Oo; have i1 : (i : Int) < (k : Int) := Oo
     go_wp2_with fail
     go_loopw [7] (fun s wr => ∃ j : Nat, i < j ∧ (j ≤ k - i ∨ j = i + 1) ∧ s = .int .i64 j ∧ Hid (∀ j', i < j' → j' < j → atT t i j' = atT t j' i) ∧ ∃ d, wr = w0.drewN d) (fun i' _ => k - i - (intOf i').toNat)
     case atStart => exact ⟨i + 1, Oo, .inr rfl, by go_num, dd (fun j hj h => Oo), d, rfl⟩
     case round =>
      obtain ⟨j, hij, hj, rfl, HB, d, rfl⟩ := hrel
      by_cases hjl : j < k - i
      ·have ex := rx.cell0 (HJ.out j hjl); obtain ⟨r2, hr2, hl2, hj2⟩ := HT.out.row (show j < k by omega); obtain ⟨p2, q2, cy, ry⟩ := hu0.row hr2; rw [hl2] at cy ry; obtain ⟨b2, f2, rfl, -⟩ := ry.cells Oo; have ey := ry.cell0 (hj2 i Oo); clear hr2 hl2 hj2; have j0 : (0 : Int) ≤ (j : Int) := Oo; have j1 : (j : Int) < ((k - i : Nat) : Int) := Oo; have j2 : (j : Int) < (k : Int) := Oo; have j3 : (i : Int) < ((k - j : Nat) : Int) := Oo; cases hx : (atT t i j != atT t j i)
       ·have HE := dd (show atT t i j = atT t j i by simpa using hx)
        go_wp2_with fail
        go_quiet (fail)
        go_wp2
        exact ⟨⟨j + 1, Oo, Oo, by go_num, dd (fun j' h1 h2 => by
         rcases Nat.lt_or_ge j' j with h | h
         ·exact HB.out j' h1 h
         ·obtain rfl : j' = j := Oo; exact HE.out), _, rfl⟩, by simp [intOf]; omega⟩
       ·have HE := dd (show qAV m t k = [1, (i : Int), (j : Int)] from qK1 hij Oo H1.out HA.out HB.out (by simpa using hx))
        go_wp2_with fail
        go_quiet (fail)
        go_wp2; go_ret; exact FEnd.lit (n := 3) (W := w0.drewN (d + nq)) (ys := [1, (i : Int), (j : Int)]) HE.out (by simp) rfl Oo sz (bY1 B0)
      ·have HE := dd (fun j' (h1 : i < j') (h2 : i + j' < k) => HB.out j' h1 Oo); have j1 : ¬ (j : Int) < ((k - i : Nat) : Int) := Oo; go_wp2
       exact ⟨⟨i + 1, Oo, by go_num, dd (fun i' h1 j' h2 h3 => by
        rcases Nat.lt_or_ge i' i with h | h
        ·exact HA.out i' h j' h2 h3
        ·obtain rfl : i' = i := Oo; exact HE.out j' h2 h3), _, rfl⟩, by simp [intOf]; omega⟩
    ·obtain rfl : i = k := Oo; have H2 := dd (fun i' j' (h1 : i' < j') (h2 : i' + j' < i) => HA.out i' Oo j' h1 h2); clear HA; obtain ⟨w1, hw1⟩ : ∃ w1, w1 = w0.drewN d := ⟨_, rfl⟩; have hb : Below w0.heap.size w0 w1 := bV hw1
     (have X1 := X0.below hb; have hu1 := hu0.below hb; have B1 := B0.trans (hb.mono B0.size))
     rw [← hw1]; clear x0 x1 hw1 hb; obtain ⟨x0, x1⟩ := id X1
     go_wp2_with fail
     refine (qPG m i _ t _ hu1 h1 hn hm Oo HT.out).mono ?_; rintro e w2 ⟨bd, bf, bp, o', op, k', kp, rfl, hcd, hXf, hvv, hcp, hR, hb⟩
     (have X2 := X1.below hb; have hu2 := hu1.below hb; have B2 := B1.trans (hb.mono B1.size))
     obtain ⟨rfl, -, rfl⟩ := Value.slice.inj hvv; clear hvv x0 x1; obtain ⟨x0, x1⟩ := id X2
     go_wp2_with fail
     refine (qB9 m _ i c _ hml).mono ?_; rintro e w3 ⟨rfl, hb⟩; have hcd3 := qA0 hb (nl _) hcd; have hXf3 := hXf.below hb; have hcp3 := qA0 hb (nl _) hcp; have hR3 := hR.below hb
     (have X3 := X2.below hb; have hu3 := hu2.below hb; have B3 := B2.trans (hb.mono B2.size))
     have B3s := B3.size; clear x0 x1 hcd hXf hcp hR; have hG := qQ9; unfold qBf at hG
     go_wp2_with fail
     go_loopw [10] (fun s wr => ∃ a : Nat, a ≤ i ∧ s = .int .i64 a ∧ Hid (∀ a', a' < a → ∀ b c, a' + b + c < i → qAx m i t a' b c = qAt m i t a' b c) ∧ ∃ d, wr = w3.drewN d) (fun s _ => i - (intOf s).toNat)
     case atStart => exact ⟨0, Nat.zero_le _, rfl, dd (fun j hj => Oo), 0, rfl⟩
     case round =>
      obtain ⟨a, ha, rfl, HA, d, rfl⟩ := hrel
      by_cases hlt : a < i
      ·have a0 : (a : Int) ≤ (i : Int) - 1 := Oo
       go_wp2_with fail
       go_loopw [11] (fun s wr => ∃ b : Nat, b ≤ i - a ∧ s = .int .i64 b ∧ Hid (∀ b', b' < b → ∀ c, a + b' + c < i → qAx m i t a b' c = qAt m i t a b' c) ∧ ∃ d, wr = w3.drewN d) (fun s _ => i - a - (intOf s).toNat)
       case atStart => exact ⟨0, Nat.zero_le _, rfl, dd (fun j hj => Oo), d, rfl⟩
       case round =>
        obtain ⟨b, hb', rfl, HB, d, rfl⟩ := hrel
        by_cases hlt : b < i - a
        ·have b0 : (a : Int) + (b : Int) ≤ (i : Int) - 1 := Oo
         go_wp2_with fail
         go_loopw [12] (fun s wr => ∃ c : Nat, c ≤ i - a - b ∧ s = .int .i64 c ∧ Hid (∀ c', c' < c → qAx m i t a b c' = qAt m i t a b c') ∧ ∃ d, wr = w3.drewN d) (fun s _ => i - a - b - (intOf s).toNat)
         case atStart => exact ⟨0, Nat.zero_le _, rfl, dd (fun j hj => Oo), d, rfl⟩
         case round =>
          obtain ⟨cc, hc', rfl, HC, d, rfl⟩ := hrel
          by_cases hlt : cc < i - a - b
          ·have c0 : (a : Int) + (b : Int) + (cc : Int) ≤ (i : Int) - 1 := Oo; have hbd : Below w3.heap.size w3 (w3.drewN d) := bZ; have HD := dd (qPE m i t bd bf bp _ op c kp a b cc (w3.drewN d) (qA0 hbd (nl _) hcd3) (hXf3.below hbd) (hu3.below hbd) (qA0 hbd (nl _) hcp3) (hR3.below hbd) h1 hn hm hm' HT.out Oo); cases hx : (qEY m i t a b cc != 0)
           ·have HE := dd (defC_1 hx)
            go_wp2_with fail
            refine HD.out.mono ?_; rintro e w' ⟨rfl, d', rfl⟩; go_wp2
            exact ⟨⟨cc + 1, Oo, by go_num, dd (fun c' h1 => by
             rcases Nat.lt_or_ge c' cc with h | h
             ·exact HC.out c' h
             ·obtain rfl : c' = cc := Oo; exact HE.out), _, rfl⟩, by simp [intOf]; omega⟩
           ·have HE := dd (show qAV m t i = [2, (a : Int), (b : Int), (cc : Int)] from qLt Oo H1.out H2.out HA.out HB.out HC.out (qLB.1 hx))
            go_wp2_with fail
            refine HD.out.mono ?_; rintro e w' ⟨rfl, d', rfl⟩; go_wp2; go_ret; exact FEnd.lit (n := 4) (W := w3.drewN (d + d')) (ys := [2, (a : Int), (b : Int), (cc : Int)]) HE.out (by simp) rfl Oo sz (bY1 B3)
          ·have c0 : ¬ (a : Int) + (b : Int) + (cc : Int) ≤ (i : Int) - 1 := Oo; have HE := dd (fun c' (h2 : a + b + c' < i) => HC.out c' Oo); go_wp2
           exact ⟨⟨b + 1, Oo, by go_num, dd (fun b' h1 c' h2 => by
            rcases Nat.lt_or_ge b' b with h | h
            ·exact HB.out b' h c' h2
            ·obtain rfl : b' = b := Oo; exact HE.out c' h2), _, rfl⟩, by simp [intOf]; omega⟩
        ·have b0 : ¬ (a : Int) + (b : Int) ≤ (i : Int) - 1 := Oo; have HE := dd (fun b' c' (h2 : a + b' + c' < i) => HB.out b' Oo c' h2); go_wp2
         exact ⟨⟨a + 1, Oo, by go_num, dd (fun a' h1 b' c' h2 => by
          rcases Nat.lt_or_ge a' a with h | h
          ·exact HA.out a' h b' c' h2
          ·obtain rfl : a' = a := Oo; exact HE.out b' c' h2), _, rfl⟩, by simp [intOf]; omega⟩
      ·obtain rfl : a = i := Oo; have a0 : ¬ (a : Int) ≤ (a : Int) - 1 := Oo; have HE := dd (show qAV m t a = [] from qHW H1.out H2.out (fun a' b c h => HA.out a' Oo b c h)); go_wp2; go_ret; exact FEnd.nil HE.out (bY1 B3)
end
section

theorem qNe {m : Int} {n : Nat} {t : Tb} (ht : PlaT m n t) (j : Nat) : ∀ x ∈ qCg t n j, 0 ≤ x ∧ x < m := by
 intro x hx
 obtain ⟨k, hk, rfl⟩ := qGr hx
 obtain ⟨-, -, -, -, h1, h2⟩ := ht.at (i := k) (j := j) Oo
 exact ⟨h1, h2⟩

theorem qQD (m : Int) (n j : Nat) (v : Value) (t : Tb) (w : World) (hv : RdT w v t) (h1 : 1 ≤ n) (hn : n ≤ 1000) (hj : j ≤ n) (ht : PlaT m n t) :
  Calls Tryz.prog 84 #[v, .int .i64 j] w fun e w' => ∃ v', e = .returned v' ∧ OwI w' w.heap.size v' (qCg t n j) ∧ Below w.heap.size w w' := by
 obtain ⟨o, c, rfl, hmx, -⟩ := id hv
 have hu : RdT w (.slice o n c) t := by rw [ht.1] at hv; exact hv
 rw [ht.1] at hmx ⊢
 clear hv
 unfold maxLen at hmx
 have HT := dd ht
 obtain ⟨bt, ft, rfl, -⟩ := hu.rows (by rw [ht.1]; omega)
 clear ht
 have j0 : (0 : Int) ≤ (j : Int) := Oo
 go_enter Tryz.func84, Tryz.ntmps84
 go_wp2_with fail
 have O1 := OwI.lit w [] (by decide)
 have B1 : Below w.heap.size w (w.alloc (.cells #[] 2)) := bZ
 simp at O1
 generalize w.alloc (.cells #[] 2) = w1 at O1 B1 ⊢
 go_loopw [5, 6] (fun s i wr => ∃ k : Nat, k ≤ n - j ∧ i = .int .i64 k ∧ OwI wr w.heap.size s (mk k (fun i => atT t i j)) ∧ Below w.heap.size w wr) (fun _ i _ => n - j - (intOf i).toNat)
 case atStart => exact ⟨0, Nat.zero_le _, rfl, O1, B1⟩
 case round =>
  obtain ⟨k, hk, rfl, hO, hB⟩ := hrel; obtain ⟨ov, cv, rfl⟩ := hO.shapeN (n := k) (qA8 _ _)
  by_cases hlt : k < n - j
  ·obtain ⟨r1, hr1, hl1, hj1⟩ := HT.out.row (show k < n by omega); obtain ⟨p1, q1, cx0, rx0⟩ := hu.row hr1; rw [hl1] at cx0 rx0; obtain ⟨b1, f1, rfl, -⟩ := rx0.cells Oo; have cx := qA0 hB (nl _) cx0; have ex := (rx0.below hB).cell0 (hj1 j Oo); have HS := dd (qCN k (fun i => atT t i j)); have hBs := hB.size; have i0 : (0 : Int) ≤ (k : Int) := Oo; have i1 : (k : Int) < (n : Int) := Oo; have i2 : (k : Int) + (j : Int) < (n : Int) := Oo; have i3 : (j : Int) < ((n - k : Nat) : Int) := Oo; clear hr1 hl1 hj1 cx0
   go_wp2_with (at_builtin; refine apI wr rfl _ _ rfl w.heap.size (.slice ov k cv) _ rfl hO (atT t k j) (by go_simp) (by rw [qA8]; omega) Oo ?_; intro v' w4 hO3 hgr hb3 hlt3; clear hgr)
   rw [← HS.out] at hO3; go_wp2; exact ⟨⟨k + 1, Oo, by go_num, hO3, hB.trans hb3⟩, by simp [intOf]; omega⟩
  ·obtain rfl : k = n - j := Oo; have i2 : ¬ ((n - j : Nat) : Int) + (j : Int) < (n : Int) := Oo; go_wp2; go_ret; exact ⟨_, rfl, hO, hB⟩
end
section

def qDb (m : Int) (n : Nat) (t : Tb) (k : Nat) : List Tb := (List.range k).map (fun c => qAK m n t (qCg t n c))
def qDj (m : Int) (n : Nat) (t : Tb) (k : Nat) : List Tb := (List.range k).map (fun a => qAK m n t (t.getD a []))
theorem qO7 (m : Int) (n : Nat) (t : Tb) (k : Nat) : (qDb m n t k).length = k := by simp [qDb]
theorem qOz (m : Int) (n : Nat) (t : Tb) (k : Nat) : (qDj m n t k).length = k := by simp [qDj]
theorem qPF {m : Int} {n : Nat} {t : Tb} {k i : Nat} (h : i < k) : (qDb m n t k)[i]? = some (qAK m n t (qCg t n i)) := by simp [qDb, h]
theorem qNW {m : Int} {n : Nat} {t : Tb} {k i : Nat} (h : i < k) : (qDj m n t k)[i]? = some (qAK m n t (t.getD i [])) := by simp [qDj, h]
theorem qOE (m : Int) (n : Nat) (t : Tb) (k : Nat) : qDb m n t (k + 1) = qDb m n t k ++ [qAK m n t (qCg t n k)] := by simp [qDb, List.range_succ]
theorem qM9 (m : Int) (n : Nat) (t : Tb) (k : Nat) : qDj m n t (k + 1) = qDj m n t k ++ [qAK m n t (t.getD k [])] := by simp [qDj, List.range_succ]
theorem qKX {t : Tb} {k : Nat} {r : Li} (h : t[k]? = some r) : t.getD k [] = r := by simp [List.getD, h]
theorem qOj {m : Int} {n : Nat} {t : Tb} (ht : PlaT m n t) {a b c : Nat} (h : a + b + c < n) : atT (qAK m n t (t.getD a [])) b c = qAt m n t a b c := by
 obtain ⟨row, hr, -⟩ := ht.row (i := a) Oo
 rw [qKX hr]
 exact qMy ht h row hr
theorem PlaT.rowx {m : Int} {n : Nat} {t : Tb} (ht : PlaT m n t) {k : Nat} {r : Li} (h : t[k]? = some r) : ∀ x ∈ r, 0 ≤ x ∧ x < m := by
 obtain ⟨hl, rfl⟩ := List.getElem?_eq_some_iff.1 h
 exact (ht.2 k hl).2

theorem qMd (m : Int) (n : Nat) (v : Value) (t : Tb) (w : World) (hv : RdT w v t) (h1 : 1 ≤ n) (hn : n ≤ 1000) (hm : 2 ≤ m) (hm' : m ≤ 10000) (ht : PlaT m n t) :
  Calls Tryz.prog 41 #[.agg #[.int .i64 m, v]] w fun e w' => FEnd w w' (qAV m t n) e := by
 obtain ⟨o, c, rfl, hmx, -⟩ := id hv
 have hu : RdT w (.slice o n c) t := by rw [ht.1] at hv; exact hv
 rw [ht.1] at hmx ⊢
 clear hv
 unfold maxLen at hmx
 have HT := dd ht
 obtain ⟨bt, ft, rfl, -⟩ := hu.rows (by rw [ht.1]; omega)
 clear ht
 go_enter Tryz.func41, Tryz.ntmps41
 go_wp2_with fail
 (obtain ⟨w0, hw0⟩ : ∃ W : World, W = (w.alloc (.cells #[.int .i64 m, .slice (some ⟨bt, ft, none⟩) n c] 26)) := ⟨_, rfl⟩; have X0 := (RB2.mk1 w  (.int .i64 m) (.slice (some ⟨bt, ft, none⟩) n c) 26).1.below (w' := w0) (bV hw0) (nl _); have B0 : Below w.heap.size w w0 := (bV hw0); have hu0 := hu.below (w' := w0) (bV hw0) (nl _); rw [← hw0]; clear hw0)
 have B0s := B0.size
 obtain ⟨x0, x1⟩ := id X0
 go_quiet (fail)
 go_wp2_with fail
 go_loopw [5] (fun s wr => ∃ k : Nat, k ≤ n ∧ s = .int .i64 k ∧ Hid (∀ j, j < k → atT t j 0 = qBM j) ∧ ∃ d, wr = w0.drewN d) (fun i _ => n - (intOf i).toNat)
 case atStart => exact ⟨0, Nat.zero_le _, rfl, dd (fun j hj => Oo), _, rfl⟩
 case round =>
  obtain ⟨k, hk, rfl, HQ, d, rfl⟩ := hrel
  by_cases hlt : k < n
  ·obtain ⟨r1, hr1, hl1, hj1⟩ := HT.out.row hlt; obtain ⟨p1, q1, cx, rx⟩ := hu0.row hr1; rw [hl1] at cx rx; obtain ⟨b1, f1, rfl, -⟩ := rx.cells Oo; have ex := rx.cell0 (hj1 0 Oo); rw [Nat.add_zero] at ex; clear hr1 hl1 hj1; have i0 : (0 : Int) ≤ (k : Int) := Oo; have i1 : (k : Int) < (n : Int) := Oo; have i2 : (0 : Int) < ((n - k : Nat) : Int) := Oo; have i3 : 0 < n - k := Oo; cases hk1 : ((k : Int) == 1)
   ·cases hx : (atT t k 0 != 0)
    ·have HE := dd (show atT t k 0 = qBM k by rw [qGM hk1]; simpa using hx); go_wp2
     exact ⟨⟨k + 1, Oo, by go_num, dd (fun j hj => by
      rcases Nat.lt_or_ge j k with h | h
      ·exact HQ.out j h
      ·obtain rfl : j = k := Oo; exact HE.out), _, rfl⟩, by simp [intOf]; omega⟩
    ·have HE := dd (show qAV m t n = [0, (k : Int)] from qG1 hlt HQ.out (by rw [qGM hk1]; simpa using hx)); go_wp2; go_ret; exact FEnd.lit (n := 2) (W := w0.drewN d) (ys := [0, (k : Int)]) HE.out (by simp) rfl Oo sz (bY1 B0)
   ·cases hx : (atT t k 0 != 1)
    ·have HE := dd (show atT t k 0 = qBM k by rw [qGD hk1]; simpa using hx); go_wp2
     exact ⟨⟨k + 1, Oo, by go_num, dd (fun j hj => by
      rcases Nat.lt_or_ge j k with h | h
      ·exact HQ.out j h
      ·obtain rfl : j = k := Oo; exact HE.out), _, rfl⟩, by simp [intOf]; omega⟩
    ·have HE := dd (show qAV m t n = [0, (k : Int)] from qG1 hlt HQ.out (by rw [qGD hk1]; simpa using hx)); go_wp2; go_ret; exact FEnd.lit (n := 2) (W := w0.drewN d) (ys := [0, (k : Int)]) HE.out (by simp) rfl Oo sz (bY1 B0)
  ·obtain rfl : k = n := Oo; have H1 := HQ; clear HQ
   go_wp2_with fail
   go_loopw [7] (fun s wr => ∃ i : Nat, i ≤ k ∧ s = .int .i64 i ∧ Hid (∀ i', i' < i → ∀ j', i' < j' → i' + j' < k → atT t i' j' = atT t j' i') ∧ ∃ d, wr = w0.drewN d) (fun i _ => k - (intOf i).toNat)
   case atStart => exact ⟨0, Nat.zero_le _, rfl, dd (fun j hj => Oo), d, rfl⟩
   case round =>
    obtain ⟨i, hi, rfl, HA, d, rfl⟩ := hrel
    by_cases hlt : i < k
    ·have i0 : (0 : Int) ≤ (i : Int) := Oo; have i1 : (i : Int) < (k : Int) := Oo
     go_wp2_with fail
     go_loopw [8] (fun s wr => ∃ j : Nat, i < j ∧ (j ≤ k - i ∨ j = i + 1) ∧ s = .int .i64 j ∧ Hid (∀ j', i < j' → j' < j → atT t i j' = atT t j' i) ∧ ∃ d, wr = w0.drewN d) (fun i' _ => k - i - (intOf i').toNat)
     case atStart => exact ⟨i + 1, Oo, .inr rfl, by go_num, dd (fun j hj h => Oo), d, rfl⟩
     case round =>
      obtain ⟨j, hij, hj, rfl, HB, d, rfl⟩ := hrel
      by_cases hjl : j < k - i
      ·obtain ⟨r1, hr1, hl1, hj1⟩ := HT.out.row hlt; obtain ⟨p1, q1, cx, rx⟩ := hu0.row hr1; rw [hl1] at cx rx; obtain ⟨b1, f1, rfl, -⟩ := rx.cells Oo; have ex := rx.cell0 (hj1 j hjl); obtain ⟨r2, hr2, hl2, hj2⟩ := HT.out.row (show j < k by omega); obtain ⟨p2, q2, cy, ry⟩ := hu0.row hr2; rw [hl2] at cy ry; obtain ⟨b2, f2, rfl, -⟩ := ry.cells Oo; have ey := ry.cell0 (hj2 i Oo); clear hr1 hl1 hj1 hr2 hl2 hj2; have j0 : (0 : Int) ≤ (j : Int) := Oo; have j1 : (j : Int) < ((k - i : Nat) : Int) := Oo; have j2 : (j : Int) < (k : Int) := Oo; have j3 : (i : Int) < ((k - j : Nat) : Int) := Oo; have j4 : (i : Int) + (j : Int) < (k : Int) := Oo; cases hx : (atT t i j != atT t j i)
       ·have HE := dd (show atT t i j = atT t j i by simpa using hx)
        go_wp2_with fail
        go_quiet (fail)
        go_wp2
        exact ⟨⟨j + 1, Oo, Oo, by go_num, dd (fun j' h1 h2 => by
         rcases Nat.lt_or_ge j' j with h | h
         ·exact HB.out j' h1 h
         ·obtain rfl : j' = j := Oo; exact HE.out), _, rfl⟩, by simp [intOf]; omega⟩
       ·have HE := dd (show qAV m t k = [1, (i : Int), (j : Int)] from qK1 hij Oo H1.out HA.out HB.out (by simpa using hx))
        go_wp2_with fail
        go_quiet (fail)
        go_wp2; go_ret; exact FEnd.lit (n := 3) (W := w0.drewN (d + nq)) (ys := [1, (i : Int), (j : Int)]) HE.out (by simp) rfl Oo sz (bY1 B0)
      ·have HE := dd (fun j' (h1 : i < j') (h2 : i + j' < k) => HB.out j' h1 Oo); have j4 : ¬ (i : Int) + (j : Int) < (k : Int) := Oo; go_wp2
       exact ⟨⟨i + 1, Oo, by go_num, dd (fun i' h1 j' h2 h3 => by
        rcases Nat.lt_or_ge i' i with h | h
        ·exact HA.out i' h j' h2 h3
        ·obtain rfl : i' = i := Oo; exact HE.out j' h2 h3), _, rfl⟩, by simp [intOf]; omega⟩
    ·obtain rfl : i = k := Oo; have H2 := dd (fun i' j' (h1 : i' < j') (h2 : i' + j' < i) => HA.out i' Oo j' h1 h2); clear HA; obtain ⟨w1, hw1⟩ : ∃ w1, w1 = w0.drewN d := ⟨_, rfl⟩; have hb : Below w0.heap.size w0 w1 := bV hw1
     (have X1 := X0.below hb; have hu1 := hu0.below hb; have B1 := B0.trans (hb.mono B0.size))
     rw [← hw1]; have B1s := B1.size; have X1l := X1.lt; clear x0 x1 hw1 hb
     go_wp2_with fail
     have OL := (OwLQ.lit0 w1 (w1.heap.size + 1)).below (w' := (w1.alloc (.cells #[] 24)).alloc (.cells #[] 24)) bZ; have OR := OwLQ.lit0 (w1.alloc (.cells #[] 24)) w1.heap.size; have hs1 : (w1.alloc (.cells #[] 24)).heap.size = w1.heap.size + 1 := by simp
     rw [hs1] at OR; have OR := OR.mono (show w1.heap.size ≤ w1.heap.size + 1 by omega); have hb2 : Below w1.heap.size w1 ((w1.alloc (.cells #[] 24)).alloc (.cells #[] 24)) := bZ; clear hs1; generalize (w1.alloc (.cells #[] 24)).alloc (.cells #[] 24) = w2 at OL OR hb2 ⊢; have hb2s := hb2.size
     go_loopw [9, 10, 11] (fun l r s wr => ∃ k gl cl gr cr : Nat, k ≤ i ∧ s = .int .i64 k ∧ l = .slice (some ⟨gl, 0, none⟩) k cl ∧ r = .slice (some ⟨gr, 0, none⟩) k cr ∧ gl ≠ gr ∧ OwLQ wr w1.heap.size gr gl k cl (qDb m i t k) ∧ OwLQ wr w1.heap.size gl gr k cr (qDj m i t k) ∧ Below w1.heap.size w1 wr) (fun _ _ s _ => i - (intOf s).toNat)
     case atStart => exact ⟨0, _, _, _, _, Nat.zero_le _, rfl, rfl, rfl, Oo, OL, OR, hb2⟩
     case round =>
      clear OL OR hb2 hb2s; obtain ⟨k, gl, cl, gr, cr, hk, rfl, rfl, rfl, hne, OL, OR, hbr⟩ := hrel; have hbrs := hbr.size; have hLlt := OL.lt; have hRlt := OR.lt
      by_cases hlt : k < i
      ·have XR := X1.below hbr; have hur := hu1.below hbr; obtain ⟨y0, y1⟩ := id XR; have k0 : (0 : Int) ≤ (k : Int) := Oo; have k1 : (k : Int) < (i : Int) := Oo; obtain ⟨r1, hr1, hl1, -⟩ := HT.out.row hlt; have HR1 := dd hr1; obtain ⟨p1, q1, cx, rx⟩ := hur.row hr1; rw [hl1] at cx rx; have HL1 := dd hl1; clear hr1 hl1; have HSL := dd (qOE m i t k); have HSR := dd (qM9 m i t k); have HLL := dd (qO7 m i t k); have HRL := dd (qOz m i t k); generalize qDb m i t k = lL at OL HSL HLL; generalize qDj m i t k = lR at OR HSR HRL; have lX := XR.lt; have lcx := qBH cx
       go_wp2_with fail
       have hd0 : Below wr.heap.size wr wr.drew := (Below.refl _ _).drew; have hsd0 := hd0.size; have f0_a := qA0 hd0 (nl _) y0; refine qAv (S := fun w' => w'.cell? ⟨w.heap.size, 0, none⟩ = some (.int .i64 m)) [0, 7, 8, 9, 10] kr ?_; refine wKq (by go_keep) fun hHeld => ?_
       refine' tQ 0 ?_; refine' tJ 1 hHeld ?_; refine' tJ 2 hHeld ?_; refine' tJ 3 hHeld ?_; refine' tJ 4 hHeld ?_; refine' tJ 6 hHeld ?_; refine qA1 (i := 5) rfl kr (fun K hK => ?_); go_simp
       go_at_call 84
       refine (qQD m i k _ t _ ((hur).below bZ (nl _)) h1 hn Oo HT.out).mono ?_; rintro e wd1 ⟨va, rfl, hod1, hbd1⟩; obtain ⟨oa, ca, rfl⟩ := hod1.shapeN (n := i - k) (qI2 _ _ _); have hd1 : Below wr.heap.size wr wd1 := (bY1 hbd1); have hsd1 := hd1.size; have hsz1_ := hbd1.size
       (try simp at hsz1_)
       have f1_a := qA0 hd1 (nl _) y0
       go_wp2_with fail
       clear hHeld; refine oKq hK (by go_keep) fun hHeld => ?_
       clear hK K
       try simp only [Act.put, sL]
       refine qA1 (i := 7) rfl kr (fun K hK => ?_); go_simp
       go_at_call 83
       refine (qFK m i _ _ (qCg t i k) t _ ((hod1.below bZ)).rd ((hur).below (bY1 hbd1) (nl _)) h1 hn hm Oo (by rw [qI2]; omega) (qNe HT.out k) HT.out).mono ?_; rintro e wd2 ⟨vb, rfl, hod2, hbd2⟩; obtain ⟨ob, cb, rfl⟩ := hod2.shapeN (n := i) (qE6 _ _ _ _); have hd2 : Below wr.heap.size wr wd2 := (bY2 hbd1 hbd2); have hsd2 := hd2.size; have hsz2_ := hbd2.size
       (try simp at hsz2_)
       have f2_a := qA0 hd2 (nl _) y0
       go_wp2_with fail
       refine hK.out _ _ (nD ·) ?_; clear hK K
       try simp only [Act.put, sL]
       refine qA1 (i := 8) rfl kr (fun K hK => ?_); go_simp
       (try go_wp2_with fail)
       refine hK.out _ _ (nD ·) ?_; clear hK K
       try simp only [Act.put, sL]
       refine qA1 (i := 9) rfl kr (fun K hK => ?_); obtain ⟨W, hW⟩ : ∃ W : World, W = wd2.alloc (.cells #[.slice ob i cb] 24) := ⟨_, rfl⟩; have hWb1 : Below wd2.heap.size wd2 W := (bV hW); have hWb := hd2.trans (hWb1.mono hsd2); have hWz := hWb.size; have hz12 := hbd2.size; have hT := OL.below hWb; have hU : Rds wd1.heap.size wd2.heap.size W (fun x => RdT x (.slice ob i cb) (qAK m i t (qCg t i k))) := (OwS.rds hod2).below hWb1; have hC0 : W.cell? ⟨wd2.heap.size, 0, none⟩ = some (.slice ob i cb) := (by rw [hW]; simp); rw [← hW]; have HW := dd hW; clear hW; refine stLQ W rfl _ _ rfl w1.heap.size gr gl k cl lL rfl hT Oo _ (qAK m i t (qCg t i k)) wd2.heap.size rfl hC0 rfl ⟨_, _, hU, .inl Oo, .inl Oo⟩ (by rw [HLL.out]; omega) ?_; intro g2 cap w5 hO5 hgr hb5 hg5; have OR5 := (OR.below hWb).other hgr (fun e => hne e.symm) (hg5.imp id id); have B5 := hbr.trans (hWb.mono hbrs); have B6 := B5.trans (hb5.mono Oo)
       have hne2 : g2 ≠ gr := (by rcases hg5 with h | h <;> omega)
       refine hK.out _ _ (nD ·) ?_; clear hK K
       try simp only [Act.put, sL]
       refine qA1 (i := 10) rfl kr (fun K hK => ?_); go_simp
       (try go_wp2_with fail)
       refine hK.out _ _ (nD ·) ?_; clear hK K
       try simp only [Act.put, sL]
       refine qAT kr ?_ _
       go_wp2_with fail
       rw [← HSL.out] at hO5; clear y0 y1 cx rx XR hur lX lcx; have XR5 := X1.below B6; have hu5 := hu1.below B6; have B6s := B6.size; have hg2 := hO5.lt; have hgr5 := OR5.lt; obtain ⟨z0, z1⟩ := id XR5; obtain ⟨p5, q5, cx5, rx5⟩ := hu5.row HR1.out; rw [HL1.out] at cx5 rx5; have lX5 := XR5.lt; have lcx5 := qBH cx5; clear hd1 hd2
       go_wp2_with fail
       have hd0 : Below w5.heap.size w5 w5.drew := (Below.refl _ _).drew; have hsd0 := hd0.size; have f0_a := qA0 hd0 (nl _) z0; have f0_b := qA0 hd0 (nl _) cx5; refine qAv (S := fun w' => w'.cell? ⟨w.heap.size, 0, none⟩ = some (.int .i64 m) ∧ w'.cell? ⟨bt, ft + k, none⟩ = some (.slice p5 (i - k) q5)) [0, 8, 9, 10, 11] kr ?_; refine wKq (by go_keep) fun hHeld => ?_
       refine' tQ 0 ?_; refine' tJ 1 hHeld ?_; refine' tJ 2 hHeld ?_; refine' tJ 3 hHeld ?_; refine' tJ 4 hHeld ?_; refine' tJ 5 hHeld ?_; refine' tJ 6 hHeld ?_; refine' tJ 7 hHeld ?_; refine qA1 (i := 8) rfl kr (fun K hK => ?_); go_simp
       go_at_call 83
       refine (qFK m i _ _ r1 t _ ((rx5).below bZ (nl _)) ((hu5).below bZ (nl _)) h1 hn hm Oo (by rw [HL1.out]; omega) (HT.out.rowx HR1.out) HT.out).mono ?_; rintro e wd1 ⟨vb, rfl, hod1, hbd1⟩; obtain ⟨oe, ce, rfl⟩ := hod1.shapeN (n := i) (qE6 _ _ _ _); have hd1 : Below w5.heap.size w5 wd1 := (bY1 hbd1); have hsd1 := hd1.size; have hsz1_ := hbd1.size
       (try simp at hsz1_)
       have f1_a := qA0 hd1 (nl _) z0; have f1_b := qA0 hd1 (nl _) cx5
       go_wp2_with fail
       refine hK.out _ _ (nD ·) ?_; clear hK K
       try simp only [Act.put, sL]
       refine qA1 (i := 9) rfl kr (fun K hK => ?_); go_simp
       (try go_wp2_with fail)
       refine hK.out _ _ (nD ·) ?_; clear hK K
       try simp only [Act.put, sL]
       refine qA1 (i := 10) rfl kr (fun K hK => ?_); have hoe : OwS wd1 w5.heap.size (.slice oe i ce) (qAK m i t r1) := hod1; obtain ⟨W, hW⟩ : ∃ W : World, W = wd1.alloc (.cells #[.slice oe i ce] 24) := ⟨_, rfl⟩; have hWb1 : Below wd1.heap.size wd1 W := (bV hW); have hWb := hd1.trans (hWb1.mono hsd1); have hWz := hWb.size; have hT := OR5.below hWb; have hU : Rds w5.heap.size wd1.heap.size W (fun x => RdT x (.slice oe i ce) (qAK m i t r1)) := (OwS.rds hoe).below hWb1; have hC0 : W.cell? ⟨wd1.heap.size, 0, none⟩ = some (.slice oe i ce) := (by rw [hW]; simp); rw [← hW]; have HW := dd hW; clear hW; refine stLQ W rfl _ _ rfl w1.heap.size g2 gr k cr lR rfl hT Oo _ (qAK m i t r1) wd1.heap.size rfl hC0 rfl ⟨_, _, hU, .inl Oo, .inl Oo⟩ (by rw [HRL.out]; omega) ?_; intro g3 cap3 w7 hO7 hgr7 hb7 hg7; have OL7 := (hO5.below hWb).other hgr7 hne2 (hg7.imp id id); have B7 := (B6.trans (hWb.mono B6s)).trans (hb7.mono Oo)
       have hne3 : g2 ≠ g3 := (by rcases hg7 with h | h <;> omega)
       refine hK.out _ _ (nD ·) ?_; clear hK K
       try simp only [Act.put, sL]
       refine qA1 (i := 11) rfl kr (fun K hK => ?_); go_simp
       (try go_wp2_with fail)
       refine hK.out _ _ (nD ·) ?_; clear hK K
       try simp only [Act.put, sL]
       refine qAT kr ?_ _
       go_wp2_with fail
       rw [← qKX HR1.out, ← HSR.out] at hO7; go_wp2; exact ⟨⟨k + 1, g2, cap, g3, cap3, Oo, by go_num, rfl, rfl, hne3, OL7, hO7, B7⟩, by simp [intOf]; omega⟩
      ·obtain rfl : k = i := Oo; have hLrd := OL.rd; have hRrd := OR.rd; have B2 := B1.trans (hbr.mono B1s); have B2s := B2.size; clear OL OR hne hLlt hRlt X0 X1 hu0 hu1
       go_wp2_with fail
       go_loopw [12] (fun s w3 => ∃ a : Nat, a ≤ k ∧ s = .int .i64 a ∧ Hid (∀ a', a' < a → ∀ b c, a' + b + c < k → qAx m k t a' b c = qAt m k t a' b c) ∧ ∃ d, w3 = wr.drewN d) (fun s _ => k - (intOf s).toNat)
       case atStart => exact ⟨0, Nat.zero_le _, rfl, dd (fun j hj => Oo), 0, rfl⟩
       case round =>
        obtain ⟨a, ha, rfl, HA, d, rfl⟩ := hrel
        by_cases hlt : a < k
        ·have a0 : (a : Int) < (k : Int) := Oo
         go_wp2_with fail
         go_loopw [13] (fun s w3 => ∃ b : Nat, b ≤ k - a ∧ s = .int .i64 b ∧ Hid (∀ b', b' < b → ∀ c, a + b' + c < k → qAx m k t a b' c = qAt m k t a b' c) ∧ ∃ d, w3 = wr.drewN d) (fun s _ => k - a - (intOf s).toNat)
         case atStart => exact ⟨0, Nat.zero_le _, rfl, dd (fun j hj => Oo), d, rfl⟩
         case round =>
          obtain ⟨b, hb', rfl, HB, d, rfl⟩ := hrel
          by_cases hlt : b < k - a
          ·have b0 : (a : Int) + (b : Int) < (k : Int) := Oo
           go_wp2_with fail
           go_loopw [14] (fun s w3 => ∃ c : Nat, c ≤ k - a - b ∧ s = .int .i64 c ∧ Hid (∀ c', c' < c → qAx m k t a b c' = qAt m k t a b c') ∧ ∃ d, w3 = wr.drewN d) (fun s _ => k - a - b - (intOf s).toNat)
           case atStart => exact ⟨0, Nat.zero_le _, rfl, dd (fun j hj => Oo), d, rfl⟩
           case round =>
            obtain ⟨cc, hc', rfl, HC, d, rfl⟩ := hrel
            by_cases hlt : cc < k - a - b
            ·have c0 : (a : Int) + (b : Int) + (cc : Int) < (k : Int) := Oo; have c1 : (0 : Int) ≤ (cc : Int) := Oo; have c2 : (cc : Int) < (k : Int) := Oo; have c3 : (0 : Int) ≤ (a : Int) := Oo; have c4 : (0 : Int) ≤ (b : Int) := Oo; have c5 : (a : Int) < (k : Int) := Oo; have c6 : (b : Int) < (k : Int) := Oo; have c7 : (b : Int) < ((k - a : Nat) : Int) := Oo; have c8 : (cc : Int) < ((k - b : Nat) : Int) := Oo; obtain ⟨o2, k2, y0, hT1⟩ := hLrd.at (qPF (show cc < k by omega)); obtain ⟨o3, k3, z0, hT2⟩ := hRrd.at (qNW (show a < k by omega)); rw [qE6] at y0 hT1 z0 hT2; rw [Nat.zero_add] at y0 z0; obtain ⟨b2, f2, rfl, -⟩ := hT1.rows (by rw [qE6]; omega); obtain ⟨b3, f3, rfl, -⟩ := hT2.rows (by rw [qE6]; omega); obtain ⟨r2, hr2, hl2, hj2⟩ := (qAF (m := m) Oo k t (qCg t k cc)).row (show a < k by omega); obtain ⟨r3, hr3, hl3, hj3⟩ := (qAF (m := m) Oo k t (t.getD a [])).row (show b < k by omega); obtain ⟨p2, q2, cy, ry⟩ := hT1.row hr2; obtain ⟨p3, q3, cz, rz⟩ := hT2.row hr3; rw [hl2] at cy ry; rw [hl3] at cz rz; obtain ⟨b4, f4, rfl, -⟩ := ry.cells Oo; obtain ⟨b5, f5, rfl, -⟩ := rz.cells Oo; have ey := ry.cell0 (hj2 b Oo); have ez := rz.cell0 (hj3 cc Oo); have eL := qQQ (m := m) (n := k) (t := t) (a := a) (b := b) (c := cc) Oo; have eR := qOj (m := m) HT.out (a := a) (b := b) (c := cc) Oo; rw [eL] at ey; rw [eR] at ez; clear hr2 hl2 hj2 hr3 hl3 hj3 eL eR; cases hx : (qAx m k t a b cc != qAt m k t a b cc)
             ·have HE := dd (show qAx m k t a b cc = qAt m k t a b cc by simpa using hx)
              go_wp2_with fail
              go_quiet (fail)
              go_wp2
              exact ⟨⟨cc + 1, Oo, by go_num, dd (fun c' h1 => by
               rcases Nat.lt_or_ge c' cc with h | h
               ·exact HC.out c' h
               ·obtain rfl : c' = cc := Oo; exact HE.out), _, rfl⟩, by simp [intOf]; omega⟩
             ·have HE := dd (show qAV m t k = [2, (a : Int), (b : Int), (cc : Int)] from qLt Oo H1.out H2.out HA.out HB.out HC.out (by simpa using hx))
              go_wp2_with fail
              go_quiet (fail)
              go_wp2; go_ret; exact FEnd.lit (n := 4) (W := wr.drewN (d + nq)) (ys := [2, (a : Int), (b : Int), (cc : Int)]) HE.out (by simp) rfl Oo sz (bY1 B2)
            ·have c0 : ¬ (a : Int) + (b : Int) + (cc : Int) < (k : Int) := Oo; have HE := dd (fun c' (h2 : a + b + c' < k) => HC.out c' Oo); go_wp2
             exact ⟨⟨b + 1, Oo, by go_num, dd (fun b' h1 c' h2 => by
              rcases Nat.lt_or_ge b' b with h | h
              ·exact HB.out b' h c' h2
              ·obtain rfl : b' = b := Oo; exact HE.out c' h2), _, rfl⟩, by simp [intOf]; omega⟩
          ·have b0 : ¬ (a : Int) + (b : Int) < (k : Int) := Oo; have HE := dd (fun b' c' (h2 : a + b' + c' < k) => HB.out b' Oo c' h2); go_wp2
           exact ⟨⟨a + 1, Oo, by go_num, dd (fun a' h1 b' c' h2 => by
            rcases Nat.lt_or_ge a' a with h | h
            ·exact HA.out a' h b' c' h2
            ·obtain rfl : a' = a := Oo; exact HE.out b' c' h2), _, rfl⟩, by simp [intOf]; omega⟩
        ·obtain rfl : a = k := Oo; have HE := dd (show qAV m t a = [] from qHW H1.out H2.out (fun a' b c h => HA.out a' Oo b c h)); go_wp2; go_ret; exact FEnd.nil HE.out (bY1 B2)
end
section

theorem qJM (w : World) (a : Addr) (n c : Nat) : (binOp .eql 28 (.slice (some a) n c) (.slice none 0 0)).run Tryz.prog w = .ok (.bool false) w := by
 have h : ∀ d : Nat, (Op.equalIn (d + 1) 28 (.slice (some a) n c) (.slice none 0 0)).run Tryz.prog w = .ok false w := fun d => by
  simp [Op.equalIn, run_underlying Tryz.underlying28]
 simp only [binOp]
 simp [Op.equal, Op.maxDepth, h 9999]
theorem qLm (w : World) : (binOp .eql 28 (.slice none 0 0) (.slice none 0 0)).run Tryz.prog w = .ok (.bool true) w := by
 have h : ∀ d : Nat, (Op.equalIn (d + 1) 28 (.slice none 0 0) (.slice none 0 0)).run Tryz.prog w = .ok true w := fun d => by
  simp [Op.equalIn, run_underlying Tryz.underlying28]
 simp only [binOp]
 simp [Op.equal, Op.maxDepth, h 9999]

structure IR where
 val : Int
 code : Int
structure LR where
 xs : Li
 code : Int
def LEnd (w w' : World) (r : LR) (e : Ending) : Prop :=
 ∃ v', e = .returned (.tuple #[v', .int .i64 r.code]) ∧ OwI w' w.heap.size v' r.xs ∧ Below w.heap.size w w' ∧ r.xs.length ≤ 1048576

def qBE (m : Int) (t : Tb) : Bool := qAg m t && (qAV m t t.length).isEmpty
theorem qEu {m : Int} {t : Tb} (h : qBE m t = true) : qAg m t = true ∧ qAV m t t.length = [] := by
 simpa [qBE] using h
theorem qKz (m : Int) (v : Value) (t : Tb) (w : World) (hv : RdT w v t) :
  Calls Tryz.prog 10 #[.agg #[.int .i64 m, v]] w fun e w' => e = .returned (.bool (qBE m t)) ∧ Below w.heap.size w w' := by
 obtain ⟨o, c, rfl, -, -⟩ := id hv
 cases h1 : qAg m t
 ·have hR : qBE m t = false := by simp [qBE, h1]
  rw [hR]
  go_enter Tryz.func10, Tryz.ntmps10
  go_wp2_with fail
  (obtain ⟨w0, hw0⟩ : ∃ W : World, W = (w.alloc (.cells #[.int .i64 m, .slice o t.length c] 26)) := ⟨_, rfl⟩; have X0 := (RB2.mk1 w  (.int .i64 m) (.slice o t.length c) 26).1.below (w' := w0) (bV hw0) (nl _); have B0 : Below w.heap.size w w0 := (bV hw0); have hv0 := hv.below (w' := w0) (bV hw0) (nl _); rw [← hw0]; clear hw0)
  (obtain ⟨gqX0, gqX1⟩ := id X0; go_wp2_with fail; refine (qCK m _ t _ hv0).mono ?_; rw [h1]; rintro e w1 ⟨rfl, hb⟩; (have X1 := X0.below hb; have B1 := B0.trans (hb.mono B0.size)); clear gqX0 gqX1; clear hb)
  go_wp2; go_ret; exact ⟨rfl, B1⟩
 ·have hm := qFD h1; have hn := qFq h1; have HP := dd (show PlaT m t.length t from ⟨rfl, qF9 h1⟩); have HR := dd (show qBE m t = (qAV m t t.length).isEmpty by simp [qBE, h1])
  go_enter Tryz.func10, Tryz.ntmps10
  go_wp2_with fail
  (obtain ⟨w0, hw0⟩ : ∃ W : World, W = (w.alloc (.cells #[.int .i64 m, .slice o t.length c] 26)) := ⟨_, rfl⟩; have X0 := (RB2.mk1 w  (.int .i64 m) (.slice o t.length c) 26).1.below (w' := w0) (bV hw0) (nl _); have B0 : Below w.heap.size w w0 := (bV hw0); have hv0 := hv.below (w' := w0) (bV hw0) (nl _); rw [← hw0]; clear hw0)
  (obtain ⟨gqX0, gqX1⟩ := id X0; go_wp2_with fail; refine (qCK m _ t _ hv0).mono ?_; rw [h1]; rintro e w1 ⟨rfl, hb⟩; (have X1 := X0.below hb; have hv1 := hv0.below hb; have B1 := B0.trans (hb.mono B0.size)); clear gqX0 gqX1; clear hb)
  obtain ⟨x0, x1⟩ := id X1
  go_wp2_with fail
  refine (qOw m t.length _ t _ hv1 Oo Oo Oo Oo HP.out).mono ?_; rintro e w2 ⟨vf, rfl, how, hnil, hb⟩
  (have X2 := X1.below hb; have B2 := B1.trans (hb.mono B1.size))
  cases h2 : (qAV m t t.length).isEmpty
  ·have hne : qAV m t t.length ≠ [] := by intro h; rw [h] at h2; cases h2
   have hln : 1 ≤ (qAV m t t.length).length := by
    cases h : qAV m t t.length with
    | nil => exact absurd h hne
    | cons => simp
   obtain ⟨of, cf, rfl⟩ := how.shape; obtain ⟨g, rfl, -, -⟩ := how.row hln; have hl0 : (((qAV m t t.length).length : Int) == 0) = false := by simp; omega
   have HR2 := dd (show qBE m t = false by rw [HR.out, h2]); have hq := qJM w2 ⟨g, 0, none⟩ (qAV m t t.length).length cf; clear h2 hne hln; go_wp2; go_ret; exact ⟨by rw [HR2.out]; rfl, B2⟩
  ·have he : qAV m t t.length = [] := by simpa using h2
   obtain rfl := hnil he; have HR2 := dd (show qBE m t = true by rw [HR.out, h2]); have hq := qLm w2; clear h2 he; go_wp2; go_ret; exact ⟨by rw [HR2.out]; rfl, B2⟩
theorem qKO (m : Int) (v : Value) (t : Tb) (w : World) (hv : RdT w v t) :
  Calls Tryz.prog 42 #[.agg #[.int .i64 m, v]] w fun e w' => e = .returned (.bool (qBE m t)) ∧ Below w.heap.size w w' := by
 obtain ⟨o, c, rfl, -, -⟩ := id hv
 cases h1 : qAg m t
 ·have hR : qBE m t = false := by simp [qBE, h1]
  rw [hR]
  go_enter Tryz.func42, Tryz.ntmps42
  go_wp2_with fail
  (obtain ⟨w0, hw0⟩ : ∃ W : World, W = (w.alloc (.cells #[.int .i64 m, .slice o t.length c] 26)) := ⟨_, rfl⟩; have X0 := (RB2.mk1 w  (.int .i64 m) (.slice o t.length c) 26).1.below (w' := w0) (bV hw0) (nl _); have B0 : Below w.heap.size w w0 := (bV hw0); have hv0 := hv.below (w' := w0) (bV hw0) (nl _); rw [← hw0]; clear hw0)
  (obtain ⟨gqX0, gqX1⟩ := id X0; go_wp2_with fail; refine (qKH m _ t _ hv0).mono ?_; rw [h1]; rintro e w1 ⟨rfl, hb⟩; (have X1 := X0.below hb; have B1 := B0.trans (hb.mono B0.size)); clear gqX0 gqX1; clear hb)
  go_wp2; go_ret; exact ⟨rfl, B1⟩
 ·have hm := qFD h1; have hn := qFq h1; have HP := dd (show PlaT m t.length t from ⟨rfl, qF9 h1⟩); have HR := dd (show qBE m t = (qAV m t t.length).isEmpty by simp [qBE, h1])
  go_enter Tryz.func42, Tryz.ntmps42
  go_wp2_with fail
  (obtain ⟨w0, hw0⟩ : ∃ W : World, W = (w.alloc (.cells #[.int .i64 m, .slice o t.length c] 26)) := ⟨_, rfl⟩; have X0 := (RB2.mk1 w  (.int .i64 m) (.slice o t.length c) 26).1.below (w' := w0) (bV hw0) (nl _); have B0 : Below w.heap.size w w0 := (bV hw0); have hv0 := hv.below (w' := w0) (bV hw0) (nl _); rw [← hw0]; clear hw0)
  (obtain ⟨gqX0, gqX1⟩ := id X0; go_wp2_with fail; refine (qKH m _ t _ hv0).mono ?_; rw [h1]; rintro e w1 ⟨rfl, hb⟩; (have X1 := X0.below hb; have hv1 := hv0.below hb; have B1 := B0.trans (hb.mono B0.size)); clear gqX0 gqX1; clear hb)
  obtain ⟨x0, x1⟩ := id X1
  go_wp2_with fail
  refine (qMd m t.length _ t _ hv1 Oo Oo Oo Oo HP.out).mono ?_; rintro e w2 ⟨vf, rfl, how, hnil, hb⟩
  (have X2 := X1.below hb; have B2 := B1.trans (hb.mono B1.size))
  cases h2 : (qAV m t t.length).isEmpty
  ·have hne : qAV m t t.length ≠ [] := by intro h; rw [h] at h2; cases h2
   have hln : 1 ≤ (qAV m t t.length).length := by
    cases h : qAV m t t.length with
    | nil => exact absurd h hne
    | cons => simp
   obtain ⟨of, cf, rfl⟩ := how.shape; obtain ⟨g, rfl, -, -⟩ := how.row hln; have hl0 : (((qAV m t t.length).length : Int) == 0) = false := by simp; omega
   have HR2 := dd (show qBE m t = false by rw [HR.out, h2]); have hq := qJM w2 ⟨g, 0, none⟩ (qAV m t t.length).length cf; clear h2 hne hln; go_wp2; go_ret; exact ⟨by rw [HR2.out]; rfl, B2⟩
  ·have he : qAV m t t.length = [] := by simpa using h2
   obtain rfl := hnil he; have HR2 := dd (show qBE m t = true by rw [HR.out, h2]); have hq := qLm w2; clear h2 he; go_wp2; go_ret; exact ⟨by rw [HR2.out]; rfl, B2⟩

end
section

theorem qOb (m m1 m2 : Int) (n : Nat) (v u : Value) (t s : Tb) (w : World) (hv : RdT w v t) (hu : RdT w u s) (h1 : 1 ≤ n) (hn : n ≤ 1000) (ht : PlaT m n t) (hs : PlaT m n s) (h0 : qB8 t s 0 = true) :
  Calls Tryz.prog 125 #[.agg #[.int .i64 m1, v], .agg #[.int .i64 m2, u]] w fun e w' => e = .returned (.int .i64 ((agrK t s n : Int) - 1)) ∧ Below w.heap.size w w' := by
 obtain ⟨o, c, rfl, hmx, -⟩ := id hv
 obtain ⟨o', c', rfl, hmy, -⟩ := id hu
 have hv' : RdT w (.slice o n c) t := by rw [ht.1] at hv; exact hv
 have hu' : RdT w (.slice o' n c') s := by rw [hs.1] at hu; exact hu
 rw [ht.1] at hmx ⊢
 rw [hs.1] at hmy ⊢
 clear hv hu
 have hml := hmx.1
 unfold maxLen at hmx hmy
 obtain ⟨bt, ft, rfl, -⟩ := hv'.rows (by rw [ht.1]; omega)
 obtain ⟨bs, fs, rfl, -⟩ := hu'.rows (by rw [hs.1]; omega)
 have HT := dd ht
 have HS := dd hs
 have HZ := dd (show ∀ d', d' < 1 → qB8 t s d' = true from fun d' h => by
  obtain rfl : d' = 0 := Oo; exact h0)
 clear ht hs h0
 go_enter Tryz.func125, Tryz.ntmps125
 go_wp2_with fail
 (obtain ⟨w0, hw0⟩ : ∃ W : World, W = ((w.alloc (.cells #[.int .i64 m1, .slice (some ⟨bt, ft, none⟩) n c] 26)).alloc (.cells #[.int .i64 m2, .slice (some ⟨bs, fs, none⟩) n c'] 26)) := ⟨_, rfl⟩; have X0 := (RB2.mk1 w  (.int .i64 m1) (.slice (some ⟨bt, ft, none⟩) n c) 26).1.below (w' := w0) (bV hw0) (nl _); have Y0 := (RB2.mk2 w (.cells #[.int .i64 m1, .slice (some ⟨bt, ft, none⟩) n c] 26) (.int .i64 m2) (.slice (some ⟨bs, fs, none⟩) n c') 26).1.below (w' := w0) (bV hw0) (nl _); have B0 : Below w.heap.size w w0 := (bV hw0); have hv'0 := hv'.below (w' := w0) (bV hw0) (nl _); have hu'0 := hu'.below (w' := w0) (bV hw0) (nl _); rw [← hw0]; clear hw0)
 have B0s := B0.size
 go_wp2_with fail
 go_loopw [5] (fun i wr => ∃ d : Nat, d ≤ n ∧ i = .int .i64 d ∧ Hid (∀ d', d' < d → qB8 t s d' = true) ∧ Below w0.heap.size w0 wr) (fun i _ => n - (intOf i).toNat)
 case atStart => exact ⟨0, Oo, rfl, dd (fun d' h => HZ.out d' Oo), Below.refl _ _⟩
 case round =>
  obtain ⟨d, hd, rfl, HQ, hbr⟩ := hrel; have Xr := X0.below hbr; have Yr := Y0.below hbr; obtain ⟨x0, x1⟩ := id Xr; obtain ⟨y0, y1⟩ := id Yr; have hbrs := hbr.size; have i0 : (0 : Int) ≤ (d : Int) := Oo
  by_cases hlt : d < n
  ·have i1 : (d : Int) ≤ (n : Int) - 1 := Oo; have i2 : (d : Int) < (n : Int) := Oo
   go_wp2_with fail
   refine (qB9 m1 _ n c _ hml).mono ?_; rintro e w2 ⟨rfl, hb⟩; have hb2 := hbr.trans (hb.mono hbrs); have B2 := B0.trans (hb2.mono B0s); have B2s := B2.size; have hv2 := hv'0.below hb2; have hu2 := hu'0.below hb2; have X2 := X0.below hb2; have Y2 := Y0.below hb2; clear x0 x1 y0 y1 hb; obtain ⟨x0, x1⟩ := id X2; obtain ⟨y0, y1⟩ := id Y2
   go_wp2_with fail
   go_loopw [6] (fun i w3 => ∃ k : Nat, k ≤ d + 1 ∧ i = .int .i64 k ∧ Hid (∀ k', k' < k → atT t k' (d - k') = atT s k' (d - k')) ∧ ∃ e, w3 = w2.drewN e) (fun i _ => d + 1 - (intOf i).toNat)
   case atStart => exact ⟨0, Nat.zero_le _, rfl, dd (fun k' h => Oo), 0, rfl⟩
   case round =>
    obtain ⟨k, hk, rfl, HR, e, rfl⟩ := hrel
    by_cases hkl : k ≤ d
    ·obtain ⟨r1, hr1, hl1, hj1⟩ := HT.out.row (show k < n by omega); obtain ⟨r2, hr2, hl2, hj2⟩ := HS.out.row (show k < n by omega); obtain ⟨p1, q1, cx, rx⟩ := hv2.row hr1; obtain ⟨p2, q2, cy, ry⟩ := hu2.row hr2; rw [hl1] at cx rx; rw [hl2] at cy ry; obtain ⟨b1, f1, rfl, -⟩ := rx.cells Oo; obtain ⟨b2, f2, rfl, -⟩ := ry.cells Oo; have ex := rx.cell0 (hj1 (d - k) Oo); have ey := ry.cell0 (hj2 (d - k) Oo); clear hr1 hl1 hj1 hr2 hl2 hj2; have k0 : (0 : Int) ≤ (k : Int) := Oo; have k1 : (k : Int) ≤ (d : Int) := Oo; have k2 : (k : Int) < (n : Int) := Oo; have k3 : (0 : Int) ≤ (d : Int) - (k : Int) := Oo; have k4 : (d : Int) - (k : Int) < ((n - k : Nat) : Int) := Oo; have k5 : ((d : Int) - (k : Int)).toNat = d - k := Oo; cases hx : (atT t k (d - k) != atT s k (d - k))
     ·have HE := dd (show atT t k (d - k) = atT s k (d - k) by simpa using hx)
      go_wp2_with fail
      have e0 : IntKind.i64.wrap ((d : Int) - (k : Int)) = (d : Int) - (k : Int) := IntWalk.i64_in _ Oo
      go_quiet (fail)
      clear e0; go_wp2
      exact ⟨⟨k + 1, Oo, by go_num, dd (fun k' h => by
       rcases Nat.lt_or_ge k' k with h | h
       ·exact HR.out k' h
       ·obtain rfl : k' = k := Oo; exact HE.out), _, rfl⟩, by simp [intOf]; omega⟩
     ·have HE := dd (show agrK t s n = d from qHK hlt HQ.out (agrA_f hkl (by simpa using hx)))
      go_wp2_with fail
      have e0 : IntKind.i64.wrap ((d : Int) - (k : Int)) = (d : Int) - (k : Int) := IntWalk.i64_in _ Oo; have e1 : IntKind.i64.wrap ((d : Int) - 1) = (d : Int) - 1 := IntWalk.i64_in _ Oo
      go_quiet (fail)
      clear e0; go_wp2; go_ret; exact ⟨by rw [HE.out]; rfl, (bY1 B2)⟩
    ·have HE := dd (show qB8 t s d = true from qFN (fun i hi => HR.out i Oo)); have k1 : ¬ (k : Int) ≤ (d : Int) := Oo; have hbz : Below w0.heap.size w0 (w2.drewN e) := (bY1 hb2); go_wp2
     exact ⟨⟨d + 1, Oo, by go_num, dd (fun d' h => by
      rcases Nat.lt_or_ge d' d with h | h
      ·exact HQ.out d' h
      ·obtain rfl : d' = d := Oo; exact HE.out), hbz⟩, by simp [intOf]; omega⟩
  ·obtain rfl : d = n := Oo; have HE := dd (show agrK t s d = d from qLd HQ.out); have i1 : ¬ (d : Int) ≤ (d : Int) - 1 := Oo; have i2 : ¬ (d : Int) < (d : Int) := Oo
   go_wp2_with fail
   refine (qB9 m1 _ d c _ hml).mono ?_; rintro e w2 ⟨rfl, hb⟩; have hb2 := hbr.trans (hb.mono hbrs); have X2 := X0.below hb2; clear x0 x1 y0 y1; obtain ⟨x0, x1⟩ := id X2
   go_wp2_with fail
   refine (qB9 m1 _ d c _ hml).mono ?_; rintro e w3 ⟨rfl, hb3⟩; have B3 := B0.trans ((hb2.trans (hb3.mono hb2.size)).mono B0s); go_wp2; go_ret; exact ⟨by rw [HE.out]; rfl, B3⟩

end
end Go.Proofs.YtfpphfjlpgefaaaGreat
