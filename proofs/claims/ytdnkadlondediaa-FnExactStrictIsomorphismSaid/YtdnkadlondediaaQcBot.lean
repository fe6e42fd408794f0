/- Lemmas of Bot. -/
import Derived.Test.YtdnkadlondediaaQcPut
import Derived.Test.YtdnkadlondediaaQcG4
set_option linter.unusedSimpArgs false
set_option linter.unusedVariables false
namespace Go.Proofs.Ytdnkadlondediaa
open Go.RowKit

def Rdo (lo hi : Nat) (w : World) (R : World → Prop) : Prop := ∀ x : World, (∀ k, k < w.heap.size → (k < lo ∨ hi ≤ k) → x.heap[k]? = w.heap[k]?) → R x
theorem Rdo.now {lo hi : Nat} {w : World} {R : World → Prop} (h : Rdo lo hi w R) : R w := h w (fun _ _ _ => rfl)
theorem Rdo.chg {lo hi : Nat} {w w' : World} {R : World → Prop} (h : Rdo lo hi w R) (hc : Chg lo hi w w') : Rdo lo hi w' R :=
  fun x hx => h x (fun k hk hd => (hx k (Nat.lt_of_lt_of_le hk hc.size) hd).trans (hc.block k hk hd))
theorem Rdo.below {lo hi : Nat} {w w' : World} {R : World → Prop} (h : Rdo lo hi w R) (hb : Below w.heap.size w w') : Rdo lo hi w' R := h.chg (Chg.of_below hb)
theorem Rds.outside {lo hi a b : Nat} {w : World} {R : World → Prop} (h : Rds a b w R) (hd : b ≤ lo ∨ hi ≤ a) : Rdo lo hi w R :=
  fun x hx => h.2 x (fun k h1 h2 => hx k (Nat.lt_of_lt_of_le h2 h.1) (by omega))
theorem Rds.chg {lo hi a b : Nat} {w w' : World} {R : World → Prop} (h : Rds a b w R) (hc : Chg lo hi w w') (hd : b ≤ lo ∨ hi ≤ a) : Rds a b w' R :=
  ⟨Nat.le_trans h.1 hc.size, fun u hu => h.2 u (fun k h1 h2 => (hu k h1 h2).trans (hc.block k (Nat.lt_of_lt_of_le h2 h.1) (by omega)))⟩
def outTo (m : Int) (n : Nat) (f : List (List Int)) (a b : List Int) (i j : Nat) : List (List Int) := tri n (fun p q => if p < i ∨ (p = i ∧ q < j) then (atT f p q + at0 a p * at0 b q) % m else atT f p q)
def outRow (m : Int) (n : Nat) (f : List (List Int)) (a b : List Int) (i j : Nat) : List Int := mk (n - i) (fun q => if q < j then (atT f i q + at0 a i * at0 b q) % m else atT f i q)
theorem outRow_len (m : Int) (n : Nat) (f : List (List Int)) (a b : List Int) (i j : Nat) : (outRow m n f a b i j).length = n - i := mk_len _ _
theorem outTo_0 {m : Int} {n : Nat} {f : List (List Int)} (hf : PlaT m n f) (a b : List Int) : f = outTo m n f a b 0 0 := by
  have e := tri_eq (t := f) (n := n) hf.1 (fun i hi => by rw [(hf.2 i hi).1, hf.1])
  conv => lhs; rw [e]
  exact tri_ext fun p q _ => by rw [if_neg (by omega)]
theorem outTo_get {m : Int} {n : Nat} {f : List (List Int)} {a b : List Int} {i j : Nat} (h : i < n) : (outTo m n f a b i j)[i]? = some (outRow m n f a b i j) := by
  unfold outTo outRow
  rw [tri_get h]
  exact congrArg some (mk_ext fun q _ => by
    by_cases e : q < j
    · rw [if_pos e, if_pos (.inr ⟨rfl, e⟩)]
    · rw [if_neg e, if_neg (by omega)])
theorem outRow_get {m : Int} {n : Nat} {f : List (List Int)} {a b : List Int} {i j : Nat} (h : j < n - i) : (outRow m n f a b i j)[j]? = some (atT f i j) := by
  unfold outRow
  rw [mk_get h, if_neg (by omega)]
theorem outTo_set {m : Int} {n : Nat} {f : List (List Int)} {a b : List Int} {i j : Nat} (h : i + j < n) : (outTo m n f a b i j).set i ((outRow m n f a b i j).set j ((atT f i j + at0 a i * at0 b j) % m)) = outTo m n f a b i (j + 1) := by
  have e : outRow m n f a b i j = mk (n - i) ((fun p q => if p < i ∨ (p = i ∧ q < j) then (atT f p q + at0 a p * at0 b q) % m else atT f p q) i) := mk_ext fun q _ => by
    by_cases e : q < j <;> simp [e]
  unfold outTo
  rw [e, tri_set h]
  refine tri_ext fun p q _ => ?_
  by_cases e1 : p = i ∧ q = j
  · obtain ⟨rfl, rfl⟩ := e1
    rw [if_pos ⟨rfl, rfl⟩, if_pos (.inr ⟨rfl, by omega⟩)]
  · rw [if_neg e1]
    by_cases e2 : p < i ∨ (p = i ∧ q < j)
    · rw [if_pos e2, if_pos (by omega)]
    · rw [if_neg e2, if_neg (by omega)]
theorem outTo_row {m : Int} {n : Nat} {f : List (List Int)} {a b : List Int} {i : Nat} : outTo m n f a b i (n - i) = outTo m n f a b (i + 1) 0 := tri_ext fun p q h => by
  by_cases e : p < i ∨ (p = i ∧ q < n - i)
  · rw [if_pos e, if_pos (by omega)]
  · rw [if_neg e, if_neg (by omega)]
theorem outTo_all {m : Int} {n : Nat} {f : List (List Int)} {a b : List Int} : outTo m n f a b n 0 = outT m n f a b := tri_ext fun p q h => by rw [if_pos (by omega)]

set_option maxHeartbeats 2000000 in
set_option maxRecDepth 100000 in
theorem addOuter_c (m m1 m2 : Int) (n : Nat) (us : List Value) (lo hi : Nat) (v u u' : Value) (f : List (List Int)) (a b : List Int) (w : World) (hv : OwSU us lo hi w v f) (hh : hi ≤ w.heap.size) (hu : Rdo lo hi w (fun x => RdI x u a)) (hu' : Rdo lo hi w (fun x => RdI x u' b))
    (hla : a.length = n) (hlb : b.length = n) (h1 : 1 ≤ n) (hn : n ≤ 1000) (hm : 2 ≤ m) (hm' : m ≤ 3000000000) (hf : PlaT m n f) (hx : ∀ x ∈ a, 0 ≤ x ∧ x < m) (hy : ∀ x ∈ b, 0 ≤ x ∧ x < m) :
    Calls Try.prog 169 #[.agg #[.int .i64 m, v], .agg #[.int .i64 m1, u], .agg #[.int .i64 m2, u']] w fun e w' => e = .returned (.tuple #[]) ∧ OwSU us lo hi w' v (outT m n f a b) ∧ Chg lo hi w w' := by
  subst hla
  obtain ⟨o, c, rfl⟩ := hv.r.ow.shapeN (n := a.length) hf.1
  obtain ⟨o1, c1, rfl, hmx, -⟩ := id hu.now
  obtain ⟨o2, c2, rfl, hmy, -⟩ := id hu'.now
  rw [hlb] at hu' ⊢
  unfold maxLen at hmx hmy
  have HF := Lib.hid hf
  have HLB := Lib.hid hlb
  obtain ⟨g, rfl, hgl, hgl'⟩ := hv.row (by omega)
  rw [outTo_0 hf a b] at hv
  obtain ⟨ba, fa, rfl, -⟩ := hu.now.cells (by omega)
  obtain ⟨bb, fb, rfl, -⟩ := hu'.now.cells (by omega)
  clear hf hlb hmx hmy
  have m0 : (m == 0) = false := by simp; omega
  have m1' : ¬ m = 0 := by omega
  go_enter Try.func169, Try.ntmps169
  go_wp2_with fail
  (have X0 := ((RB2.mk1 w  (.int .i64 m) (.slice (some ⟨g, 0, none⟩) a.length c) 32).1).below (w' := (((w.alloc (.cells #[.int .i64 m, .slice (some ⟨g, 0, none⟩) a.length c] 32)).alloc (.cells #[.int .i64 m1, .slice (some ⟨ba, fa, none⟩) a.length c1] 34)).alloc (.cells #[.int .i64 m2, .slice (some ⟨bb, fb, none⟩) a.length c2] 34))) (by (repeat (first | exact Below.refl _ _ | (refine Below.setCell ?_ (by first | (simp; done) | (simp; omega) | omega) _) | (refine Below.alloc ?_ (by first | (simp; done) | (simp; omega) | omega) _) | (refine below_drewN ?_ _) | (refine Below.drew ?_)))) (Nat.le_refl _); have Y0 := ((RB2.mk2 w (.cells #[.int .i64 m, .slice (some ⟨g, 0, none⟩) a.length c] 32) (.int .i64 m1) (.slice (some ⟨ba, fa, none⟩) a.length c1) 34).1).below (w' := (((w.alloc (.cells #[.int .i64 m, .slice (some ⟨g, 0, none⟩) a.length c] 32)).alloc (.cells #[.int .i64 m1, .slice (some ⟨ba, fa, none⟩) a.length c1] 34)).alloc (.cells #[.int .i64 m2, .slice (some ⟨bb, fb, none⟩) a.length c2] 34))) (by (repeat (first | exact Below.refl _ _ | (refine Below.setCell ?_ (by first | (simp; done) | (simp; omega) | omega) _) | (refine Below.alloc ?_ (by first | (simp; done) | (simp; omega) | omega) _) | (refine below_drewN ?_ _) | (refine Below.drew ?_)))) (Nat.le_refl _); have Z0 := ((RB2.mk3 w (.cells #[.int .i64 m, .slice (some ⟨g, 0, none⟩) a.length c] 32) (.cells #[.int .i64 m1, .slice (some ⟨ba, fa, none⟩) a.length c1] 34) (.int .i64 m2) (.slice (some ⟨bb, fb, none⟩) a.length c2) 34).1).below (w' := (((w.alloc (.cells #[.int .i64 m, .slice (some ⟨g, 0, none⟩) a.length c] 32)).alloc (.cells #[.int .i64 m1, .slice (some ⟨ba, fa, none⟩) a.length c1] 34)).alloc (.cells #[.int .i64 m2, .slice (some ⟨bb, fb, none⟩) a.length c2] 34))) (by (repeat (first | exact Below.refl _ _ | (refine Below.setCell ?_ (by first | (simp; done) | (simp; omega) | omega) _) | (refine Below.alloc ?_ (by first | (simp; done) | (simp; omega) | omega) _) | (refine below_drewN ?_ _) | (refine Below.drew ?_)))) (Nat.le_refl _); have B0 : Below w.heap.size w (((w.alloc (.cells #[.int .i64 m, .slice (some ⟨g, 0, none⟩) a.length c] 32)).alloc (.cells #[.int .i64 m1, .slice (some ⟨ba, fa, none⟩) a.length c1] 34)).alloc (.cells #[.int .i64 m2, .slice (some ⟨bb, fb, none⟩) a.length c2] 34)) := (by (repeat (first | exact Below.refl _ _ | (refine Below.setCell ?_ (by first | (simp; done) | (simp; omega) | omega) _) | (refine Below.alloc ?_ (by first | (simp; done) | (simp; omega) | omega) _) | (refine below_drewN ?_ _) | (refine Below.drew ?_)))); generalize ((w.alloc (.cells #[.int .i64 m, .slice (some ⟨g, 0, none⟩) a.length c] 32)).alloc (.cells #[.int .i64 m1, .slice (some ⟨ba, fa, none⟩) a.length c1] 34)).alloc (.cells #[.int .i64 m2, .slice (some ⟨bb, fb, none⟩) a.length c2] 34) = w0 at X0 Y0 Z0 B0  ⊢)
  have B0s := B0.size
  have hv0 := hv.stay (u' := w0) (fun k _ hk => B0.block k (by omega))
  have hX0l : w.heap.size ≤ w.heap.size := Nat.le_refl _
  obtain ⟨x0, x1⟩ := id X0
  go_wp2_with fail
  clear x0 x1
  go_loopw [12] (fun s wr => ∃ i : Nat, i ≤ a.length ∧ s = .int .i64 i ∧ OwSU us lo hi wr (.slice (some ⟨g, 0, none⟩) a.length c) (outTo m a.length f a b i 0) ∧ Chg lo hi w0 wr) (fun i _ => a.length - (intOf i).toNat)
  case atStart => exact ⟨0, Nat.zero_le _, rfl, hv0, Chg.refl _ _ _⟩
  case round =>
    obtain ⟨i, hi', rfl, hO, hC⟩ := hrel
    by_cases hlt : i < a.length
    · obtain ⟨o3, c3, hu3, cx3, -, -, -⟩ := hO.at (outTo_get hlt)
      rw [outRow_len] at hu3 cx3
      have i0 : (0 : Int) ≤ (i : Int) := by omega
      have i1 : (i : Int) < (a.length : Int) := by omega
      go_wp2_with fail
      clear cx3
      go_loopw [19] (fun s wr => ∃ j : Nat, j ≤ a.length - i ∧ s = .int .i64 j ∧ OwSU us lo hi wr (.slice (some ⟨g, 0, none⟩) a.length c) (outTo m a.length f a b i j) ∧ Chg lo hi w0 wr) (fun i' _ => a.length - i - (intOf i').toNat)
      case atStart => exact ⟨0, Nat.zero_le _, rfl, hO, hC⟩
      case round =>
        clear hO hC
        obtain ⟨j, hj, rfl, hO, hC⟩ := hrel
        by_cases hjl : j < a.length - i
        · obtain ⟨o4, c4, hu4, cx4, how4, hbl4, hset4⟩ := hO.at (outTo_get hlt)
          rw [outRow_len] at hu4 cx4 how4 hbl4 hset4
          obtain ⟨rfl, rfl⟩ : o3 = o4 ∧ c3 = c4 := by rw [hu3] at hu4; simpa using hu4
          obtain ⟨gr, rfl, hgr1, hgr2⟩ := how4.row (by omega)
          have hgr3 := hbl4 gr rfl
          have hc0 := how4.cell (k := j) (outRow_get hjl)
          have hf0 := how4.fz j
          have hN := Lib.hid how4
          have hS := Lib.hid hset4
          obtain ⟨-, -, -, -, hta, htb⟩ := HF.out.at (i := i) (j := j) (by omega)
          clear how4 hset4 hbl4 hu4 cx4
          obtain ⟨x0, x1⟩ := X0.chg hC (by omega)
          obtain ⟨y0, y1⟩ := Y0.chg hC (by omega)
          obtain ⟨z0, z1⟩ := Z0.chg hC (by omega)
          have hCw : Chg lo hi w wr := (Chg.of_below ⟨B0.os, B0.tape, B0.output, B0.size, B0.block⟩).trans hC
          have ca := (hu.chg hCw).now.cell0 (some_at0 hlt)
          have cb := (hu'.chg hCw).now.cell0 (some_at0 (show j < b.length by rw [HLB.out]; omega))
          have hak := at0_range (by omega) hx i
          have hbk := at0_range (by omega) hy j
          have j0 : (0 : Int) ≤ (j : Int) := by omega
          have j1 : (j : Int) < ((a.length - i : Nat) : Int) := by omega
          have j2 : (j : Int) < (a.length : Int) := by omega
          have hM := mod_lt' (a := at0 a i * at0 b j) (show 0 < m by omega)
          have hMod := mod_lt' (a := atT f i j + at0 a i * at0 b j % m) (show 0 < m by omega)
          go_wp2_with fail
          have e1 : IntKind.i64.wrap (atT f i j + at0 a i * at0 b j % m) = atT f i j + at0 a i * at0 b j % m := IntWalk.i64_in _ (by omega)
          have e2 : (atT f i j + at0 a i * at0 b j % m).tmod m = (atT f i j + at0 a i * at0 b j % m) % m := Int.tmod_eq_emod_of_nonneg (by omega)
          go_still_tail 24, (by kernel_rfl)
          still_call (stillC (mul_c _ _ _ _ (by omega) hm' (by omega) (by omega) (by omega) (by omega)))
          repeat still_step
          refine wpStill_nil ?_
          change wpList _ _ _ _ _ wr.drew
          have hg0 := gr_put (gr_drewN (World.grownBy.refl wr (some gr)) 1) j (.int .i64 ((atT f i j + at0 a i * at0 b j % m) % m))
          have hOn := hS.out _ _ (by rw [List.length_set, outRow_len]) hg0 ((hN.out.drewN 1).put j _)
          have hCn := hC.grown hg0 hgr3.1 hgr3.2.1
          have hme : (atT f i j + at0 a i * at0 b j % m) % m = (atT f i j + at0 a i * at0 b j) % m := emod_congr_add rfl (emod_idem _ _)
          rw [hme, outTo_set (by omega)] at hOn
          rw [hme] at hCn
          go_wp2
          exact ⟨⟨j + 1, by omega, by go_num, hOn, hCn⟩, by simp [intOf]; omega⟩
        · obtain rfl : j = a.length - i := by omega
          rw [outTo_row] at hO
          go_wp2
          exact ⟨⟨i + 1, by omega, by go_num, hO, hC⟩, by simp [intOf]; omega⟩
    · obtain rfl : i = a.length := by omega
      rw [outTo_all] at hO
      have hCw : Chg lo hi w wr := (Chg.of_below ⟨B0.os, B0.tape, B0.output, B0.size, B0.block⟩).trans hC
      go_wp2
      exact bodyPost_end (v := .tuple #[]) (by simp [results, Try.results169, go_sem]) rfl ⟨rfl, hO, hCw⟩

end Go.Proofs.Ytdnkadlondediaa
