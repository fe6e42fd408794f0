/- Lemmas. -/
import Derived.Test.YtfpphfjlpgefaaaGreatqM22
import Derived.Test.YtfpphfjlpgefaaaGreatqSerC
import Derived.Test.YtfpphfjlpgefaaaGreatqG2
import Derived.Test.YtfpphfjlpgefaaaGreatqM5
import Derived.Deep.RegionHeld3
import Derived.Test.YtfpphfjlpgefaaaGreatqG1
import Derived.Test.YtfpphfjlpgefaaaGreatqM14
import Derived.Test.YtfpphfjlpgefaaaGreatqM13
set_option maxHeartbeats 2000000
set_option maxRecDepth 100000
set_option linter.unusedSimpArgs false
set_option linter.unusedVariables false
namespace Go.Proofs.YtfpphfjlpgefaaaGreat
open Go.RowKit

theorem qJk (m : Int) (n : Nat) (v : Value) (xs : Li) (w : World) (hv : RdI w v xs) (hl : xs.length = n) (h1 : 1 ≤ n) (hn : n ≤ 1000) (hm : 2 ≤ m) (hm' : m ≤ 1000000000000)
  (hx : ∀ x ∈ xs, 0 ≤ x ∧ x < m) :
  Calls Tryz.prog 88 #[.agg #[.int .i64 m, v]] w fun e w' => ∃ v', e = .returned v' ∧ OwLS w' w.heap.size v' m (qBg m n xs n) ∧ Below w.heap.size w w' := by
 subst hl
 obtain ⟨o, c, rfl, hmx, -⟩ := id hv
 have hml := hmx.1
 unfold maxLen at hmx
 go_enter Tryz.func88, Tryz.ntmps88
 go_wp2_with fail
 (obtain ⟨w0, hw0⟩ : ∃ W : World, W = (w.alloc (.cells #[.int .i64 m, .slice o xs.length c] 34)) := ⟨_, rfl⟩; have X0 := (RB2.mk1 w  (.int .i64 m) (.slice o xs.length c) 34).1.below (w' := w0) (bV hw0) (nl _); have B0 : Below w.heap.size w w0 := (bV hw0); have hv0 := hv.below (w' := w0) (bV hw0) (nl _); rw [← hw0]; clear hw0)
 obtain ⟨x0, x1⟩ := id X0
 go_wp2_with fail
 refine (qHX m 1 _ xs _ hv0 h1 Oo hm Oo Oo Oo).mono ?_
 rintro e w1 ⟨vz, rfl, how, hb⟩
 obtain ⟨oz, cz, rfl⟩ := how.shapeN (n := xs.length) (qG3 _ _ _)
 (have X1 := X0.below hb; have hv1 := hv0.below hb; have B1 := B0.trans (hb.mono B0.size))
 have hb1 := hb.size
 have hB0 := B0.size
 have OL := OwLS.lit1 w1 m _ _ (how.rds hb1) hb1
 rw [show [qCf m 1 xs.length] = qBg m xs.length xs 1 from rfl] at OL
 clear x0 x1 hb
 obtain ⟨x0, x1⟩ := id X1
 have lX := X1.lt
 go_wp2_with fail
 have hb : Below w1.heap.size w1 (w1.alloc (.cells #[.int .i64 m, .slice oz xs.length cz] 34)) := bZ
 (have X2 := X1.below hb; have hv2 := hv1.below hb; have B2 := B1.trans (hb.mono B1.size))
 clear x0 x1 X1 hv1 hb lX
 generalize w1.alloc (.cells #[.int .i64 m, .slice oz xs.length cz] 34) = w2 at X2 hv2 B2 OL ⊢
 refine (qCb m o xs.length c _ hml).mono ?_
 rintro e w3 ⟨rfl, hb⟩
 (have X3 := X2.below hb; have hv3 := hv2.below hb; have B3 := B2.trans (hb.mono B2.size))
 have OL3 := (OL.below hb).mono (show w.heap.size + 1 ≤ w0.heap.size from X0.lt)
 have B3s := B3.size
 clear OL hb how
 go_wp2_with fail
 go_loopw [3, 9] (fun s i wr => ∃ (k : Nat) (ov : Option Addr) (cv : Nat), k + 1 ≤ xs.length ∧ i = .int .i64 k ∧ s = .slice ov (k + 1) cv ∧ OwLS wr (w.heap.size + 1) (.slice ov (k + 1) cv) m (qBg m xs.length xs (k + 1)) ∧ Below w.heap.size w wr ∧ Box2 wr w.heap.size (.int .i64 m) (.slice o xs.length c)) (fun _ i _ => xs.length - 1 - (intOf i).toNat)
 case atStart => exact ⟨0, _, _, h1, rfl, rfl, OL3, B3, X3⟩
 case round =>
  obtain ⟨k, ov, cv, hk, rfl, rfl, hO, hB, hX⟩ := hrel; have hBs := hB.size
  by_cases hlt : k + 1 < xs.length
  ·obtain ⟨q, hq⟩ : ∃ q, q = k + 1 := ⟨_, rfl⟩; rw [← hq] at hO ⊢; obtain ⟨bo, off, rfl⟩ := hO.rd.base (by rw [qC7]; omega); obtain ⟨o1, c1, y0, y1, hr⟩ := hO.rd.at (qF3 (show k < q by omega)); rw [qBU] at y1 hr; have hvr := hv.below hB; obtain ⟨x0, x1⟩ := id hX; have HS := dd (qJD m xs.length xs q); have hlt2 := dd hO.lt; have i0 : (0 : Int) ≤ (k : Int) := Oo; have i1 : (k : Int) < (q : Int) := Oo; have i2 : (k : Int) < (xs.length : Int) - 1 := Oo; have i3 : (1 : Int) ≤ (q : Int) := Oo; have i4 : (q : Int) - 1 < (q : Int) := Oo; have i5 : ((q : Int) - 1).toNat = k := Oo; have e0 : IntKind.i64.wrap ((q : Int) - 1) = (q : Int) - 1 := IntWalk.i64_in _ Oo; have ly := qBH y0; have HQ := dd hq; have hPq : qAA m xs.length xs (k + 1) = qAA m xs.length xs q := by rw [hq]
   rw [show qAA m xs.length xs q = qAA m xs.length xs (k + 1) by rw [hq]] at HS; clear hPq hq; have lx := hX.lt
   go_wp2_with fail
   have hd0 : Below wr.heap.size wr wr.drew := (Below.refl _ _).drew; have hsd0 := hd0.size; refine qAv (S := fun w' => w'.cell? ⟨bo, off + k * 2, none⟩ = some (.int .i64 m) ∧ w'.cell? ⟨bo, off + k * 2 + 1, none⟩ = some (.slice o1 xs.length c1) ∧ w'.cell? ⟨w.heap.size, 0, none⟩ = some (.int .i64 m) ∧ w'.cell? ⟨w.heap.size, 1, none⟩ = some (.slice o xs.length c)) [0, 8, 9, 10, 11] kr ?_; refine wKq (by go_keep) fun hHeld => ?_
   refine' tQ 0 ?_; refine' tJ 1 hHeld ?_; refine' tJ 2 hHeld ?_; refine' tJ 3 hHeld ?_; refine' tJ 4 hHeld ?_; refine' tJ 5 hHeld ?_; refine' tJ 6 hHeld ?_; refine' tJ 7 hHeld ?_; refine qA1 (i := 8) rfl kr (fun K hK => ?_); go_simp
   go_at_call 90
   refine (qLY m m _ _ (qAA m xs.length xs k) xs _ ((hr).below bZ (nl _)) ((hvr).below bZ (nl _)) (by rw [qBU]) (by rw [qBU]; omega) (by rw [qBU]; omega) hm hm' (qEx Oo) hx).mono ?_; rintro e wd1 ⟨va, rfl, hod1, hbd1⟩; rw [qBU] at hod1; obtain ⟨oa, ca, rfl⟩ := hod1.shapeN (n := xs.length) (qBX _ _ _ _); have hd1 : Below wr.heap.size wr wd1 := (bY1 hbd1); have hsd1 := hd1.size; have hsz1_ := hbd1.size
   (try simp at hsz1_)
   go_wp2_with fail
   refine hK.out _ _ (nD ·) ?_; clear hK K
   try simp only [Act.put, sL]
   refine qA1 (i := 9) rfl kr (fun K hK => ?_); go_simp
   (try go_wp2_with fail)
   refine hK.out _ _ (nD ·) ?_; clear hK K
   try simp only [Act.put, sL]
   refine qA1 (i := 10) rfl kr (fun K hK => ?_); have how' : OwI wd1 wr.heap.size (.slice oa xs.length ca) (qAA m xs.length xs (k + 1)) := hod1; obtain ⟨W, hW⟩ : ∃ W : World, W = wd1.alloc (.cells #[.int .i64 m, .slice oa xs.length ca] 34) := ⟨_, rfl⟩; have hWb1 : Below wd1.heap.size wd1 W := (bV hW); have hT : OwLS W (w.heap.size + 1) (.slice (some ⟨bo, off, none⟩) q cv) m (qBg m xs.length xs q) := (hO.below hd1).below hWb1; have hU : Rds wr.heap.size wd1.heap.size W (fun x => RdI x (.slice oa xs.length ca) (qAA m xs.length xs (k + 1))) := (how'.rds hsd1).below hWb1; have hC0 : W.cell? ⟨wd1.heap.size, 0, none⟩ = some (.int .i64 m) := (by rw [hW]; simp); have hC1 : W.cell? ⟨wd1.heap.size, 1, none⟩ = some (.slice oa xs.length ca) := (by rw [hW]; simp); have hWb := hd1.trans (hWb1.mono hsd1); have hWz := hWb.size; rw [← hW]; have HW := dd hW; clear hW; refine stLS W rfl _ _ rfl (w.heap.size + 1) (.slice (some ⟨bo, off, none⟩) q cv) m (qBg m xs.length xs q) rfl hT Oo _ (qAA m xs.length xs (k + 1)) wd1.heap.size rfl hC0 hC1 rfl ⟨_, _, Oo, hU, fun b hb => .inl (hlt2.out b hb).2⟩ (by rw [qC7]; omega) ?_; intro g cap w5 hO5 hgr hb5; have B5 := (hB.trans (hWb.mono hBs)).trans (hb5.mono Oo); have hX5 := ((hX.below hWb).grown hgr (fun hb => by have := hlt2.out _ hb.symm; omega)); refine hK.out _ _ (nD ·) ?_; clear hK K
   try simp only [Act.put, sL]
   refine qA1 (i := 11) rfl kr (fun K hK => ?_); go_simp
   (try go_wp2_with fail)
   refine hK.out _ _ (nD ·) ?_; clear hK K
   try simp only [Act.put, sL]
   refine qAT kr ?_ _
   go_wp2_with fail
   rw [qC7, ← HS.out] at hO5; have hq := HQ.out; go_wp2; exact ⟨⟨k + 1, _, _, Oo, by go_num, by rw [qC7, hq], by rw [hq] at hO5; exact hO5, B5, hX5⟩, by simp [intOf]; omega⟩
  ·obtain hk1 : k + 1 = xs.length := Oo; rw [congrArg (qBg m xs.length xs) hk1] at hO; clear hk1; go_wp2; go_ret; exact ⟨_, rfl, hO.mono Oo, hB⟩

theorem OwS.lit1 {w : World} {B : Nat} {u : Value} {row : Li} (h : OwI w B u row) (hB : B ≤ w.heap.size) : OwS (w.alloc (.cells #[u] 28)) B (.slice (some ⟨w.heap.size, 0, none⟩) 1 1) [row] := by
 have hr := World.ownsRow_lit (base := B) (e := 28) (size := 1) w #[u] 1 hB (by unfold maxLen; omega) rfl
 refine ⟨[u], rfl, hr, fun k u' r hk hx => ?_, fun i j u1 u2 b hi hj hb1 hb2 => ?_, fun i u' b hi hb hv => ?_⟩
 ·have : k = 0 := by have := (List.getElem?_eq_some_iff.1 hk).1; simp at this; omega
  subst this; simp at hk hx; subst hk hx; exact h.alloc _
 ·have e1 := (List.getElem?_eq_some_iff.1 hi).1; have e2 := (List.getElem?_eq_some_iff.1 hj).1; simp at e1 e2; omega
 ·have e1 := (List.getElem?_eq_some_iff.1 hi).1; simp at e1; subst e1; simp at hi; subst hi; simp only [Value.ownBlock, Option.some.injEq] at hv; have := (h.lt b hb).2; omega

theorem qJP (m : Int) (n : Nat) (v : Value) (xs : Li) (w : World) (hv : RdI w v xs) (hl : xs.length = n) (h1 : 1 ≤ n) (hn : n ≤ 1000) (hm : 2 ≤ m) (hm' : m ≤ 3000000000)
  (hx : ∀ x ∈ xs, 0 ≤ x ∧ x < m) :
  Calls Tryz.prog 94 #[.int .i64 m, v] w fun e w' => ∃ v', e = .returned v' ∧ OwS w' w.heap.size v' (qBg m n xs n) ∧ Below w.heap.size w w' := by
 subst hl
 obtain ⟨o, c, rfl, hmx, -⟩ := id hv
 unfold maxLen at hmx
 have i00 : (0 : Int) < (xs.length : Int) := Oo
 go_enter Tryz.func94, Tryz.ntmps94
 go_wp2_with (at_make; go_loud (refine mkI _ rfl _ _ rfl _ _ _ xs.length rfl rfl rfl Oo ?_; intro w1 how hb1 hs1; have hc0 := how.cell (k := 0) (qE9 xs.length 0 0 Oo); have hf0 := how.fz 0; have hz1 : w.heap.size < w1.heap.size := Oo; have Hn := dd how; clear how hs1))
 have h2 := OwI.put Hn.out 0 1
 rw [show (List.replicate xs.length (0 : Int)).set 0 1 = qAA m xs.length xs 0 by unfold qAA; rw [qOv hm]] at h2
 have B1 := qAL hb1 (g := w.heap.size) (k := 0) (nl _) (.int .i64 1)
 have OL := OwS.lit1 h2 (by have := B1.size; exact this)
 have B2 := B1.alloc B1.size (.cells #[.slice (some ⟨w.heap.size, 0, none⟩) xs.length xs.length] 28)
 rw [show [qAA m xs.length xs 0] = qBg m xs.length xs 1 from rfl] at OL
 clear h2 hc0 hf0
 have hsz : (w1.setCell ⟨w.heap.size, 0, none⟩ (.int .i64 1)).heap.size = w1.heap.size := by simp
 rw [hsz] at OL
 clear hsz
 generalize (w1.setCell ⟨w.heap.size, 0, none⟩ (.int .i64 1)).alloc (.cells #[.slice (some ⟨w.heap.size, 0, none⟩) xs.length xs.length] 28) = w2 at OL B2 ⊢
 go_loopw [7, 8] (fun s i wr => ∃ (k : Nat) (ov : Option Addr) (cv : Nat), k + 1 ≤ xs.length ∧ i = .int .i64 k ∧ s = .slice ov (k + 1) cv ∧ OwS wr w.heap.size (.slice ov (k + 1) cv) (qBg m xs.length xs (k + 1)) ∧ Below w.heap.size w wr) (fun _ i _ => xs.length - 1 - (intOf i).toNat)
 case atStart => exact ⟨0, _, _, h1, rfl, rfl, OL, B2⟩
 case round =>
  obtain ⟨k, ov, cv, hk, rfl, rfl, hO, hB⟩ := hrel; have hBs := hB.size
  by_cases hlt : k + 1 < xs.length
  ·obtain ⟨g, rfl, hgl, hgl'⟩ := hO.row Oo; obtain ⟨o1, c1, y0, hr, -⟩ := hO.get (qF3 (show k < k + 1 by omega)); rw [qBU] at y0 hr; have hvr := hv.below hB; have HS := dd (qJD m xs.length xs (k + 1)); have i0 : (0 : Int) ≤ (k : Int) := Oo; have i1 : (k : Int) < ((k + 1 : Nat) : Int) := Oo; have i2 : (k : Int) < (xs.length : Int) - 1 := Oo
   go_wp2_with (first
    | (go_at_call 97; refine (qFj m _ xs.length _ _ (qAA m xs.length xs k) xs _ rfl hr.rd hvr h1 Oo hm hm' (qEx Oo) hx).mono ?_; rintro e w3 ⟨va, rfl, how, hb3⟩; obtain ⟨oa, ca, rfl⟩ := how.shapeN (n := xs.length) (qBX _ _ _ _); have hz3 := hb3.size)
    | (at_builtin; obtain ⟨W, hW⟩ : ∃ W : World, W = w3.alloc (.cells #[.slice oa xs.length ca] 28) := ⟨_, rfl⟩; have hWb : Below wr.heap.size wr W := (by rw [hW]; exact (bY1 hb3)); have hT : OwSR w.heap.size wr.heap.size W (.slice (some ⟨g, 0, none⟩) (k + 1) cv) (qBg m xs.length xs (k + 1)) := hO.toR.stay (fun j _ hj => hWb.block j hj); have hU : OwI W wr.heap.size (.slice oa xs.length ca) (qAA m xs.length xs (k + 1)) := (by rw [hW]; exact how.alloc _); have hC : W.cell? ⟨w3.heap.size, 0, none⟩ = some (.slice oa xs.length ca) := (by rw [hW]; simp); have B3 := hB.trans (hWb.mono hBs); have hWs := hWb.size; rw [← hW]; have HW := dd hW; clear hW; go_loud (refine apT W rfl _ _ rfl w.heap.size wr.heap.size _ _ rfl hT Oo hBs _ _ w3.heap.size rfl hC hU (by rw [qC7]; omega) ?_; intro g2 cap w4 hO4 hgr hb4; clear hgr; have B4 := B3.trans hb4)))
   rw [qC7, ← HS.out] at hO4; exact ⟨⟨k + 1, _, _, Oo, by go_num, by rw [qC7], hO4, B4⟩, by simp [intOf]; omega⟩
  ·obtain hk1 : k + 1 = xs.length := Oo; rw [congrArg (qBg m xs.length xs) hk1] at hO; have i2 : ¬ (k : Int) < (xs.length : Int) - 1 := Oo; clear hk1; go_wp2; go_ret; exact ⟨_, rfl, hO, hB⟩


theorem RB2.mk4 (w : World) (o o' o'' : Obj) (x y : Value) (t : TypeId) : RB2 ((((w.alloc o).alloc o').alloc o'').alloc (.cells #[x, y] t)) (w.heap.size + 3) x y := by
 have := RB2.mk1 (((w.alloc o).alloc o').alloc o'') x y t
 simpa using this

def Cel2 (w : World) (b f : Nat) (x y : Value) : Prop := w.cell? ⟨b, f, none⟩ = some x ∧ w.cell? ⟨b, f + 1, none⟩ = some y
theorem Cel2.below {B : Nat} {w w' : World} {b f : Nat} {x y : Value} (h : Cel2 w b f x y) (hb : Below B w w') (hB : w.heap.size ≤ B := by exact Nat.le_refl _) : Cel2 w' b f x y := ⟨qA0 hb hB h.1, qA0 hb hB h.2⟩


def Rdo (lo hi : Nat) (w : World) (R : World → Prop) : Prop := ∀ x : World, (∀ k, k < w.heap.size → (k < lo ∨ hi ≤ k) → x.heap[k]? = w.heap[k]?) → R x
theorem Rdo.now {lo hi : Nat} {w : World} {R : World → Prop} (h : Rdo lo hi w R) : R w := h w (fun _ _ _ => rfl)
theorem Rdo.chg {lo hi : Nat} {w w' : World} {R : World → Prop} (h : Rdo lo hi w R) (hc : Chg lo hi w w') : Rdo lo hi w' R :=
 fun x hx => h x (fun k hk hd => (hx k (Nat.lt_of_lt_of_le hk hc.size) hd).trans (hc.block k hk hd))
theorem Rdo.below {lo hi : Nat} {w w' : World} {R : World → Prop} (h : Rdo lo hi w R) (hb : Below w.heap.size w w') : Rdo lo hi w' R := h.chg (Chg.of_below hb)
theorem Rds.outside {lo hi a b : Nat} {w : World} {R : World → Prop} (h : Rds a b w R) (hd : b ≤ lo ∨ hi ≤ a) : Rdo lo hi w R :=
 fun x hx => h.2 x (fun k h1 h2 => hx k (Nat.lt_of_lt_of_le h2 h.1) Oo)
theorem Rds.chg {lo hi a b : Nat} {w w' : World} {R : World → Prop} (h : Rds a b w R) (hc : Chg lo hi w w') (hd : b ≤ lo ∨ hi ≤ a) : Rds a b w' R :=
 ⟨Nat.le_trans h.1 hc.size, fun u hu => h.2 u (fun k h1 h2 => (hu k h1 h2).trans (hc.block k (Nat.lt_of_lt_of_le h2 h.1) Oo))⟩
def qCx (m : Int) (n : Nat) (f : Tb) (a b : Li) (i j : Nat) : Tb := tri n (fun p q => if p < i ∨ (p = i ∧ q < j) then (atT f p q + at0 a p * at0 b q) % m else atT f p q)
def qEH (m : Int) (n : Nat) (f : Tb) (a b : Li) (i j : Nat) : Li := mk (n - i) (fun q => if q < j then (atT f i q + at0 a i * at0 b q) % m else atT f i q)
theorem qHd (m : Int) (n : Nat) (f : Tb) (a b : Li) (i j : Nat) : (qEH m n f a b i j).length = n - i := qA8 _ _
theorem qOp {m : Int} {n : Nat} {f : Tb} (hf : PlaT m n f) (a b : Li) : f = qCx m n f a b 0 0 := by
 have e := qEm (t := f) (n := n) hf.1 (fun i hi => by rw [(hf.2 i hi).1, hf.1])
 conv => lhs; rw [e]
 exact qAE fun p q _ => by rw [if_neg Oo]
theorem qJw {m : Int} {n : Nat} {f : Tb} {a b : Li} {i j : Nat} (h : i < n) : (qCx m n f a b i j)[i]? = some (qEH m n f a b i j) := by
 unfold qCx qEH
 rw [qAp h]
 exact congrArg some (qAh fun q _ => by
  by_cases e : q < j
  ·rw [if_pos e, if_pos (.inr ⟨rfl, e⟩)]
  ·rw [if_neg e, if_neg Oo])
theorem qPL {m : Int} {n : Nat} {f : Tb} {a b : Li} {i j : Nat} (h : j < n - i) : (qEH m n f a b i j)[j]? = some (atT f i j) := by
 unfold qEH
 rw [qAy h, if_neg Oo]
theorem qQZ {m : Int} {n : Nat} {f : Tb} {a b : Li} {i j : Nat} (h : i + j < n) : (qCx m n f a b i j).set i ((qEH m n f a b i j).set j ((atT f i j + at0 a i * at0 b j) % m)) = qCx m n f a b i (j + 1) := by
 have e : qEH m n f a b i j = mk (n - i) ((fun p q => if p < i ∨ (p = i ∧ q < j) then (atT f p q + at0 a p * at0 b q) % m else atT f p q) i) := qAh fun q _ => by
  by_cases e : q < j <;> simp [e]
 unfold qCx
 rw [e, qBp h]
 refine qAE fun p q _ => ?_
 by_cases e1 : p = i ∧ q = j
 ·obtain ⟨rfl, rfl⟩ := e1; rw [if_pos ⟨rfl, rfl⟩, if_pos (.inr ⟨rfl, Oo⟩)]
 ·rw [if_neg e1]
  by_cases e2 : p < i ∨ (p = i ∧ q < j)
  ·rw [if_pos e2, if_pos Oo]
  ·rw [if_neg e2, if_neg Oo]
theorem qMJ {m : Int} {n : Nat} {f : Tb} {a b : Li} {i : Nat} : qCx m n f a b i (n - i) = qCx m n f a b (i + 1) 0 := qAE fun p q h => by
 by_cases e : p < i ∨ (p = i ∧ q < n - i)
 ·rw [if_pos e, if_pos Oo]
 ·rw [if_neg e, if_neg Oo]
theorem qPl {m : Int} {n : Nat} {f : Tb} {a b : Li} : qCx m n f a b n 0 = outT m n f a b := qAE fun p q h => by rw [if_pos Oo]

theorem qNh (m m1 m2 : Int) (n : Nat) (us : List Value) (lo hi : Nat) (v u u' : Value) (f : Tb) (a b : Li) (w : World) (hv : OwSU us lo hi w v f) (hh : hi ≤ w.heap.size) (hu : Rdo lo hi w (fun x => RdI x u a)) (hu' : Rdo lo hi w (fun x => RdI x u' b))
  (hla : a.length = n) (hlb : b.length = n) (h1 : 1 ≤ n) (hn : n ≤ 1000) (hm : 2 ≤ m) (hm' : m ≤ 3000000000) (hf : PlaT m n f) (hx : ∀ x ∈ a, 0 ≤ x ∧ x < m) (hy : ∀ x ∈ b, 0 ≤ x ∧ x < m) :
  Calls Tryz.prog 134 #[.agg #[.int .i64 m, v], .agg #[.int .i64 m1, u], .agg #[.int .i64 m2, u']] w fun e w' => e = .returned (.tuple #[]) ∧ OwSU us lo hi w' v (outT m n f a b) ∧ Chg lo hi w w' := by
 subst hla
 obtain ⟨o, c, rfl⟩ := hv.r.ow.shapeN (n := a.length) hf.1
 obtain ⟨o1, c1, rfl, hmx, -⟩ := id hu.now
 obtain ⟨o2, c2, rfl, hmy, -⟩ := id hu'.now
 rw [hlb] at hu' ⊢
 unfold maxLen at hmx hmy
 have HF := dd hf
 have HLB := dd hlb
 obtain ⟨g, rfl, hgl, hgl'⟩ := hv.row Oo
 rw [qOp hf a b] at hv
 obtain ⟨ba, fa, rfl, -⟩ := hu.now.cells Oo
 obtain ⟨bb, fb, rfl, -⟩ := hu'.now.cells Oo
 clear hf hlb hmx hmy
 have m0 : (m == 0) = false := by simp; omega
 have m1' : ¬ m = 0 := Oo
 go_enter Tryz.func134, Tryz.ntmps134
 go_wp2_with fail
 (obtain ⟨w0, hw0⟩ : ∃ W : World, W = (((w.alloc (.cells #[.int .i64 m, .slice (some ⟨g, 0, none⟩) a.length c] 26)).alloc (.cells #[.int .i64 m1, .slice (some ⟨ba, fa, none⟩) a.length c1] 34)).alloc (.cells #[.int .i64 m2, .slice (some ⟨bb, fb, none⟩) a.length c2] 34)) := ⟨_, rfl⟩; have X0 := (RB2.mk1 w  (.int .i64 m) (.slice (some ⟨g, 0, none⟩) a.length c) 26).1.below (w' := w0) (bV hw0) (nl _); have Y0 := (RB2.mk2 w (.cells #[.int .i64 m, .slice (some ⟨g, 0, none⟩) a.length c] 26) (.int .i64 m1) (.slice (some ⟨ba, fa, none⟩) a.length c1) 34).1.below (w' := w0) (bV hw0) (nl _); have Z0 := (RB2.mk3 w (.cells #[.int .i64 m, .slice (some ⟨g, 0, none⟩) a.length c] 26) (.cells #[.int .i64 m1, .slice (some ⟨ba, fa, none⟩) a.length c1] 34) (.int .i64 m2) (.slice (some ⟨bb, fb, none⟩) a.length c2) 34).1.below (w' := w0) (bV hw0) (nl _); have B0 : Below w.heap.size w w0 := (bV hw0); rw [← hw0]; clear hw0)
 have B0s := B0.size
 have hv0 := hv.stay (u' := w0) (fun k _ hk => B0.block k Oo)
 have hX0l : w.heap.size ≤ w.heap.size := Nat.le_refl _
 obtain ⟨x0, x1⟩ := id X0
 go_wp2_with fail
 clear x0 x1
 go_loopw [12] (fun s wr => ∃ i : Nat, i ≤ a.length ∧ s = .int .i64 i ∧ OwSU us lo hi wr (.slice (some ⟨g, 0, none⟩) a.length c) (qCx m a.length f a b i 0) ∧ Chg lo hi w0 wr) (fun i _ => a.length - (intOf i).toNat)
 case atStart => exact ⟨0, Nat.zero_le _, rfl, hv0, Chg.refl _ _ _⟩
 case round =>
  obtain ⟨i, hi', rfl, hO, hC⟩ := hrel
  by_cases hlt : i < a.length
  ·obtain ⟨o3, c3, hu3, cx3, -, -, -⟩ := hO.at (qJw hlt); rw [qHd] at hu3 cx3; have i0 : (0 : Int) ≤ (i : Int) := Oo; have i1 : (i : Int) < (a.length : Int) := Oo
   go_wp2_with fail
   clear cx3
   go_loopw [19] (fun s wr => ∃ j : Nat, j ≤ a.length - i ∧ s = .int .i64 j ∧ OwSU us lo hi wr (.slice (some ⟨g, 0, none⟩) a.length c) (qCx m a.length f a b i j) ∧ Chg lo hi w0 wr) (fun i' _ => a.length - i - (intOf i').toNat)
   case atStart => exact ⟨0, Nat.zero_le _, rfl, hO, hC⟩
   case round =>
    clear hO hC; obtain ⟨j, hj, rfl, hO, hC⟩ := hrel
    by_cases hjl : j < a.length - i
    ·obtain ⟨o4, c4, hu4, cx4, how4, hbl4, hset4⟩ := hO.at (qJw hlt); rw [qHd] at hu4 cx4 how4 hbl4 hset4; obtain ⟨rfl, rfl⟩ : o3 = o4 ∧ c3 = c4 := by rw [hu3] at hu4; simpa using hu4
     obtain ⟨gr, rfl, hgr1, hgr2⟩ := how4.row Oo; have hgr3 := hbl4 gr rfl; have hc0 := how4.cell (k := j) (qPL hjl); have hf0 := how4.fz j; have hN := dd how4; have hS := dd hset4; obtain ⟨-, -, -, -, hta, htb⟩ := HF.out.at (i := i) (j := j) Oo; clear how4 hset4 hbl4 hu4 cx4; obtain ⟨x0, x1⟩ := X0.chg hC Oo; obtain ⟨y0, y1⟩ := Y0.chg hC Oo; obtain ⟨z0, z1⟩ := Z0.chg hC Oo; have hCw : Chg lo hi w wr := (Chg.of_below ⟨B0.os, B0.tape, B0.output, B0.size, B0.block⟩).trans hC; have ca := (hu.chg hCw).now.cell0 (qA5 hlt); have cb := (hu'.chg hCw).now.cell0 (qA5 (show j < b.length by rw [HLB.out]; omega)); have hak := qAG Oo hx i; have hbk := qAG Oo hy j; have j0 : (0 : Int) ≤ (j : Int) := Oo; have j1 : (j : Int) < ((a.length - i : Nat) : Int) := Oo; have j2 : (j : Int) < (a.length : Int) := Oo; have hM := qA6 (a := at0 a i * at0 b j) (show 0 < m by omega); have hMod := qA6 (a := atT f i j + at0 a i * at0 b j % m) (show 0 < m by omega)
     go_wp2_with fail
     have e1 : IntKind.i64.wrap (atT f i j + at0 a i * at0 b j % m) = atT f i j + at0 a i * at0 b j % m := IntWalk.i64_in _ Oo; have e2 : (atT f i j + at0 a i * at0 b j % m).tmod m = (atT f i j + at0 a i * at0 b j % m) % m := Int.tmod_eq_emod_of_nonneg Oo
     go_still_tail 24, kr
     still_call (qFe (qG7 _ _ _ _ Oo hm' Oo Oo Oo Oo))
     repeat still_step
     refine wpStill_nil ?_
     change wpList _ _ _ _ _ wr.drew
     have hg0 := qAw (qE0 (World.grownBy.refl wr (some gr)) 1) j (.int .i64 ((atT f i j + at0 a i * at0 b j % m) % m)); have hOn := hS.out _ _ (by rw [List.length_set, qHd]) hg0 ((hN.out.drewN 1).put j _); have hCn := hC.grown hg0 hgr3.1 hgr3.2.1; have hme : (atT f i j + at0 a i * at0 b j % m) % m = (atT f i j + at0 a i * at0 b j) % m := qCU rfl (qCX _ _); rw [hme, qQZ Oo] at hOn; rw [hme] at hCn; go_wp2; exact ⟨⟨j + 1, Oo, by go_num, hOn, hCn⟩, by simp [intOf]; omega⟩
    ·obtain rfl : j = a.length - i := Oo; rw [qMJ] at hO; go_wp2; exact ⟨⟨i + 1, Oo, by go_num, hO, hC⟩, by simp [intOf]; omega⟩
  ·obtain rfl : i = a.length := Oo; rw [qPl] at hO; have hCw : Chg lo hi w wr := (Chg.of_below ⟨B0.os, B0.tape, B0.output, B0.size, B0.block⟩).trans hC; go_wp2; exact bodyPost_end (v := .tuple #[]) (by simp [results, Tryz.results134, go_sem]) rfl ⟨rfl, hO, hCw⟩

end Go.Proofs.YtfpphfjlpgefaaaGreat
