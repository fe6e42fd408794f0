/- Lemmas of G23. -/
import Derived.Test.YtoednonijmkbjaaGreatVG2
import Derived.Laws.CopyOwn
import Derived.Test.YtoednonijmkbjaaGreatVCutP
import Derived.Test.YtoednonijmkbjaaGreatVG15
import Derived.Test.YtoednonijmkbjaaGreatVG8
/- Lists of int; copies of rows. -/
set_option linter.unusedSimpArgs false
set_option linter.unusedVariables false
namespace Go.Proofs.YtoednonijmkbjaaGreat
open Go.RowKit
open Go

theorem info_j : (Tryz.prog.info? 3).map (fun i => (i.zero, i.size, i.bytes)) = some (some (.int .i64 0), 1, 8) := by kernel_rfl
def OwJ (w : World) (B : Nat) (v : Value) (xs : List Int) : Prop := w.ownsRow B 3 1 v xs.length (xs.map (Value.int .i64))
theorem OwJ.rd {w : World} {B : Nat} {v : Value} {xs : List Int} (h : OwJ w B v xs) : RdI w v xs := by
  obtain ⟨h1, h2⟩ := h
  rcases h2 with ⟨rfl, h0⟩ | ⟨g, cap, cur, rfl, hg, hh, hn, hcm, hcs, ht⟩
  · have : xs = [] := List.eq_nil_of_length_eq_zero h0
    subst this
    exact RdI.nil w
  · refine ⟨_, _, rfl, ⟨by omega, hn, fun h => by cases h⟩, fun k x hx => ⟨g, 0, rfl, ?_⟩⟩
    have := World.ownsRow.cells (w := w) (base := B) (e := 3) (size := 1) (v := .slice (some ⟨g, 0, none⟩) xs.length cap) (n := xs.length) (xs := xs.map (Value.int .i64)) ⟨h1, .inr ⟨g, cap, cur, rfl, hg, hh, hn, hcm, hcs, ht⟩⟩ (g := g) rfl k (.int .i64 x) (by simp [hx])
    have e : (⟨g, 0, none⟩ : Addr).add k = ⟨g, 0 + k, none⟩ := by unfold Addr.add; split <;> simp_all
    rw [e] at this
    exact this
theorem OwJ.lt {w : World} {B : Nat} {v : Value} {xs : List Int} (h : OwJ w B v xs) : ∀ k, v.ownBlock = some k → B ≤ k ∧ k < w.heap.size := World.ownsRow.lt h
theorem OwJ.lit (w : World) (ys : List Int) (h : ys.length ≤ maxLen) : OwJ (w.alloc (.cells (ys.map (Value.int .i64)).toArray 3)) w.heap.size (.slice (some ⟨w.heap.size, 0, none⟩) ys.length ys.length) ys := by
  have := World.ownsRow_lit (base := w.heap.size) (e := 3) (size := 1) w (ys.map (Value.int .i64)).toArray ys.length (Nat.le_refl _) h (by simp)
  simpa [OwJ] using this
theorem apJ {ops : Array Oper} {rest : List Oper} {o : Oper} {a : Act} {Q : Exit → Act → World → Prop} (w : World) (hg : o.guard = none) (s x : Operand) (hop : o.op = .call { callee := .builtin .append, args := #[s, x], argTypes := #[82, 82] })
    (B : Nat) (v : Value) (xs : List Int) (hs : a.eval s = v) (hown : OwJ w B v xs) (y : Int) (hx : a.eval x = .slice (some ⟨w.heap.size, 0, none⟩) 1 1)
    (hn : xs.length < 1099511627776) (hB : B ≤ w.heap.size)
    (hK : ∀ v' w', OwJ w' B v' (xs ++ [y]) → Below B w w' → wpList Tryz.prog ops Q rest (a.put o.dst v') w') :
    wpList Tryz.prog ops Q (o :: rest) a (w.alloc (.cells #[.int .i64 y] 3)) := by
  obtain ⟨i0, hi, hz0, hz1, hz2⟩ := info_parts info_j
  refine wpList_append_own _ hg s x 82 hop B 3 i0 (.int .i64 0) 1 8 Tryz.underlying82 hi hz0 hz1 hz2 rfl (by decide) v xs.length (xs.map (Value.int .i64)) hs (World.ownsRow.alloc hown _) ⟨w.heap.size, 0, none⟩ 1 1 [.int .i64 y] hx rfl (cell_one_new _ _ _) (ints_oneCell .i64 [y]) (by unfold maxLen; omega) (by omega) (by simp; omega) ?_
  intro v' w' hown' hgrow _
  refine hK v' w' (by unfold OwJ; rw [List.length_append, List.map_append]; exact hown') ?_
  refine Below.grown (((Below.refl B w)).alloc hB _) hgrow (by simp; omega) ?_
  intro k hk
  exact (OwJ.lt hown k hk).1

theorem run_cpI (w : World) (ty : TypeId) (B g n c : Nat) (xs : List Int) (hown : OwI w B (.slice (some ⟨g, 0, none⟩) n c) xs) (b f n' c' : Nat) (ys : List Int) (hr : RdI w (.slice (some ⟨b, f, none⟩) n' c') ys) (hn : n ≤ n') :
    ∃ w', (Builtin.copy_ #[26, 26] ty #[.slice (some ⟨g, 0, none⟩) n c, .slice (some ⟨b, f, none⟩) n' c']).run Tryz.prog w = .ok (goInt n) w' ∧ OwI w' B (.slice (some ⟨g, 0, none⟩) n c) (ys.take n) ∧ w.grownBy w' (some g) := by
  obtain ⟨i0, hi, hz0, hz1, hz2⟩ := info_parts info_i
  have hln := hown.len
  obtain ⟨h1, h2⟩ := hown
  rcases h2 with ⟨h, _⟩ | ⟨g1, cap1, cur, hv, hg, hh, hnc, hcm, hcs, ht⟩
  · simp at h
  obtain ⟨e1, e2, e3⟩ := Value.slice.inj hv
  obtain rfl : g = g1 := by simpa using e1
  subst e3
  obtain ⟨o', c2, heq, hm, hc⟩ := hr
  obtain ⟨rfl, rfl, rfl⟩ : some ⟨b, f, none⟩ = o' ∧ n' = ys.length ∧ c' = c2 := by simpa using heq
  have hcl : ((ys.take n).map (Value.int .i64)).length = n := by simp; omega
  have hrun := run_copy_row (P := Tryz.prog) w 26 26 ty 2 g 0 n c ⟨b, f, none⟩ ys.length c' cur 2 ((ys.take n).map (Value.int .i64)) Tryz.underlying26 (by rw [hi]; simp [hz1]) hh (by rw [hcl]; exact (Nat.min_eq_right hn).symm) (fun j u hj => by
    simp only [List.getElem?_map, Option.map_eq_some_iff] at hj
    obtain ⟨y, hy, rfl⟩ := hj
    rw [List.getElem?_take] at hy
    split at hy
    · obtain ⟨b', f', hb, hcell⟩ := hc j y hy
      obtain ⟨rfl, rfl⟩ : b = b' ∧ f = f' := by simpa using hb
      rw [Addr.add_lit]; exact hcell
    · simp at hy) (by rw [hcl]; omega) (ints_oneCell .i64 _)
  rw [hcl] at hrun
  refine ⟨_, hrun, ⟨by (first | (simp; done) | (simp; omega)), .inr ⟨g, c, _, by simp; omega, hg, setRow_heap w g cur _ _ _ hh, by simp; omega, hcm, ?_, ?_⟩⟩, ⟨rfl, rfl, rfl, by simp, fun k _ hk => setRow_other w g k _ (fun e => hk (by rw [e]))⟩⟩
  · first | (simp; done) | (simp; omega)
  · simp
end Go.Proofs.YtoednonijmkbjaaGreat

/- The program's cut of a plane; the powers of a prime up to a degree. -/
set_option linter.unusedSimpArgs false
set_option linter.unusedVariables false
namespace Go.Proofs.YtoednonijmkbjaaGreat
open Go.RowKit

set_option maxHeartbeats 1000000 in
set_option maxRecDepth 100000 in
theorem powersUpTo_c (p n : Nat) (w : World) (hp : P4 p) (hn : n ≤ 10) :
    Calls Tryz.prog 73 #[.int .i64 p, .int .i64 n] w fun e w' => ∃ v', e = .returned v' ∧ RdI w' v' (mk (mostOf p n) (fun k => ((p ^ (k + 1) : Nat) : Int))) ∧ Below w.heap.size w w' := by
  have hp2 := hp.pos
  go_enter Tryz.func73, Tryz.ntmps73
  go_wp2_with fail
  have O1 := OwJ.lit w [] (by decide)
  simp at O1
  have B1 : Below w.heap.size w (w.alloc (.cells #[] 3)) := (by (repeat (first | exact Below.refl _ _ | (refine Below.setCell ?_ (by first | (simp; done) | (simp; omega) | omega) _) | (refine Below.alloc ?_ (by first | (simp; done) | (simp; omega) | omega) _) | (refine below_drewN ?_ _) | (refine Below.drew ?_))))
  generalize w.alloc (.cells #[] 3) = w1 at O1 B1 ⊢
  go_loopw [5, 6] (fun s i wr => ∃ k : Nat, k ≤ mostOf p n ∧ i = .int .i64 ((p ^ (k + 1) : Nat) : Int) ∧ OwJ wr w.heap.size s (mk k (fun k => ((p ^ (k + 1) : Nat) : Int))) ∧ Below w.heap.size w wr) (fun s _ _ => mostOf p n - (match s with | .slice _ n _ => n | _ => 0))
  case atStart => exact ⟨0, Nat.zero_le _, by simp, O1, B1⟩
  case round =>
    clear O1 B1
    obtain ⟨k, hk, rfl, hO, hB⟩ := hrel
    obtain ⟨ov, cv, e, -⟩ := hO.rd
    rw [mk_len] at e
    subst e
    obtain ⟨k1, k2, k3, k4⟩ := most_key hp hn hk
    have hBs := hB.size
    by_cases hlt : k < mostOf p n
    · have i1 : ((p ^ (k + 1) : Nat) : Int) ≤ (n : Int) := by have := k3.2 hlt; omega
      have hpp : p ^ (k + 1) * p = p ^ (k + 1 + 1) := (Nat.pow_succ ..).symm
      have hle : p ^ (k + 1) * p ≤ 100 * 7 := Nat.mul_le_mul k4 hp2.2
      have e1 : IntKind.i64.wrap (((p ^ (k + 1) : Nat) : Int) * (p : Int)) = ((p ^ (k + 1 + 1) : Nat) : Int) := by
        have h : ((p ^ (k + 1) : Nat) : Int) * (p : Int) = ((p ^ (k + 1) * p : Nat) : Int) := by simp
        rw [h, ← hpp]; exact IntWalk.i64_in _ (by omega)
      have HS := Lib.hid (mk_snoc k (fun k => ((p ^ (k + 1) : Nat) : Int)))
      generalize hA : p ^ (k + 1) = A at i1 e1 HS ⊢
      generalize hB2 : p ^ (k + 1 + 1) = A2 at e1 ⊢
      have HA2 := Lib.hid hB2
      clear hA hB2 hpp hle k1 k3 k4
      go_wp2_with (at_builtin; go_loud (refine apJ wr rfl _ _ rfl w.heap.size (.slice ov k cv) _ rfl hO _ rfl (by rw [mk_len]; omega) (by omega) ?_; intro v' w4 hO3 hb3))
      rw [← HS.out] at hO3
      obtain ⟨o3, c3, e3, -⟩ := hO3.rd
      rw [mk_len] at e3
      subst e3
      exact ⟨⟨k + 1, by omega, by rw [HA2.out], hO3, hB.trans hb3⟩, by simp; omega⟩
    · obtain rfl : k = mostOf p n := by omega
      have i1 : ¬ ((p ^ (mostOf p n + 1) : Nat) : Int) ≤ (n : Int) := by
        have : ¬ p ^ (mostOf p n + 1) ≤ n := fun h => by have := k3.1 h; omega
        omega
      generalize p ^ (mostOf p n + 1) = A at i1 ⊢
      go_wp2
      go_ret
      exact ⟨_, rfl, hO.rd, hB⟩

def cutTo (k : Nat) (t : List (List Int)) (q : Nat) : List (List Int) := tri (k + 1) (fun a b => if a < q then atT t a b else 0)
theorem cutTo_0 (k : Nat) (t : List (List Int)) : zeroT (k + 1) = cutTo k t 0 := tri_ext fun a b _ => by rw [if_neg (by omega)]
theorem cutTo_all (k : Nat) (t : List (List Int)) : cutTo k t (k + 1) = cutT (k + 1) t := tri_ext fun a b _ => by rw [if_pos (by omega)]
theorem cutTo_set {k q : Nat} {t : List (List Int)} (h : q < k + 1) : (cutTo k t q).set q (mk (k + 1 - q) (atT t q)) = cutTo k t (q + 1) := by
  unfold cutTo
  apply List.ext_getElem?
  intro a
  rw [List.getElem?_set]
  by_cases e : q = a
  · subst e
    rw [if_pos rfl, if_pos (by rw [tri_len]; exact h), tri_get h]
    exact congrArg some (mk_ext fun j _ => by rw [if_pos (by omega)])
  · rw [if_neg e]
    by_cases ha : a < k + 1
    · rw [tri_get ha, tri_get ha]
      refine congrArg some (mk_ext fun j _ => ?_)
      by_cases h' : a < q
      · rw [if_pos h', if_pos (by omega)]
      · rw [if_neg h', if_neg (by omega)]
    · rw [List.getElem?_eq_none (by rw [tri_len]; omega), List.getElem?_eq_none (by rw [tri_len]; omega)]

set_option maxHeartbeats 1000000 in
set_option maxRecDepth 100000 in
theorem cutP_c (m M : Int) (n k : Nat) (v : Value) (t : List (List Int)) (w : World) (hv : RdT w v t) (ht : PlaT M n t) (h1 : 1 ≤ k) (hk : k + 1 ≤ n) (hn : n ≤ 100) :
    Calls Tryz.prog 59 #[.agg #[.int .i64 m, v], .int .i64 k] w fun e w' => PVEnd w w' m (cutT (k + 1) t) e := by
  obtain ⟨o, c, rfl, hmx, -⟩ := id hv
  rw [ht.1] at hmx ⊢
  have hv' : RdT w (.slice o n c) t := by rw [ht.1] at hv; exact hv
  obtain ⟨bx, fx, rfl, -⟩ := hv'.rows (by rw [ht.1]; omega)
  have HT := Lib.hid ht
  clear hv ht
  go_enter Tryz.func59, Tryz.ntmps59
  go_wp2_with fail
  (have X0 := ((RB2.mk1 w  (.int .i64 m) (.slice (some ⟨bx, fx, none⟩) n c) 31).1).below (w' := ((w.alloc (.cells #[.int .i64 m, .slice (some ⟨bx, fx, none⟩) n c] 31)).alloc (.cells #[.int .i64 0, .slice none 0 0] 31))) (by (repeat (first | exact Below.refl _ _ | (refine Below.setCell ?_ (by first | (simp; done) | (simp; omega) | omega) _) | (refine Below.alloc ?_ (by first | (simp; done) | (simp; omega) | omega) _) | (refine below_drewN ?_ _) | (refine Below.drew ?_)))) (Nat.le_refl _); have R0 := ((RB2.mk2 w (.cells #[.int .i64 m, .slice (some ⟨bx, fx, none⟩) n c] 31) (.int .i64 0) (.slice none 0 0) 31)).below (w' := ((w.alloc (.cells #[.int .i64 m, .slice (some ⟨bx, fx, none⟩) n c] 31)).alloc (.cells #[.int .i64 0, .slice none 0 0] 31))) (by (repeat (first | exact Below.refl _ _ | (refine Below.setCell ?_ (by first | (simp; done) | (simp; omega) | omega) _) | (refine Below.alloc ?_ (by first | (simp; done) | (simp; omega) | omega) _) | (refine below_drewN ?_ _) | (refine Below.drew ?_)))) (Nat.le_refl _); have B0 : Below w.heap.size w ((w.alloc (.cells #[.int .i64 m, .slice (some ⟨bx, fx, none⟩) n c] 31)).alloc (.cells #[.int .i64 0, .slice none 0 0] 31)) := (by (repeat (first | exact Below.refl _ _ | (refine Below.setCell ?_ (by first | (simp; done) | (simp; omega) | omega) _) | (refine Below.alloc ?_ (by first | (simp; done) | (simp; omega) | omega) _) | (refine below_drewN ?_ _) | (refine Below.drew ?_)))); have hv'0 := hv'.below (w' := ((w.alloc (.cells #[.int .i64 m, .slice (some ⟨bx, fx, none⟩) n c] 31)).alloc (.cells #[.int .i64 0, .slice none 0 0] 31))) (by (repeat (first | exact Below.refl _ _ | (refine Below.setCell ?_ (by first | (simp; done) | (simp; omega) | omega) _) | (refine Below.alloc ?_ (by first | (simp; done) | (simp; omega) | omega) _) | (refine below_drewN ?_ _) | (refine Below.drew ?_)))) (Nat.le_refl _); generalize (w.alloc (.cells #[.int .i64 m, .slice (some ⟨bx, fx, none⟩) n c] 31)).alloc (.cells #[.int .i64 0, .slice none 0 0] 31) = w0 at X0 R0 B0 hv'0 ⊢)
  refine (emptyPlane_c m (k : Int) (k + 1) _ (by omega) (by omega)).mono ?_
  rintro e w1 ⟨vz, rfl, how, hb1⟩
  obtain ⟨oT, cT, rfl⟩ := how.shapeN (n := k + 1) (zeroT_len _)
  have hb1s := hb1.size
  have R1 := R0.below hb1 (Nat.le_refl _)
  have X1 := X0.below hb1 (Nat.le_refl _)
  have B1 := B0.trans (hb1.mono B0.size)
  have hv1 := hv'0.below hb1 (Nat.le_refl _)
  have how := how.toR
  obtain ⟨us, how⟩ := how.named
  obtain ⟨gT, rfl, hg1, hg2⟩ := how.row (by omega)
  have B0s := B0.size
  have X0l := X0.lt
  have R0l := R0.1.lt
  have B1s := B1.size
  clear hb1 X0 R0 B0 hv'0
  go_wp2_with fail
  have O2 := Box2.mk' w1 (.int .i64 m) (.slice (some ⟨gT, 0, none⟩) (k + 1) cT) 31
  have hbA : Below w1.heap.size w1 (w1.alloc (.cells #[.int .i64 m, .slice (some ⟨gT, 0, none⟩) (k + 1) cT] 31)) := (by (repeat (first | exact Below.refl _ _ | (refine Below.setCell ?_ (by first | (simp; done) | (simp; omega) | omega) _) | (refine Below.alloc ?_ (by first | (simp; done) | (simp; omega) | omega) _) | (refine below_drewN ?_ _) | (refine Below.drew ?_))))
  have R2 := R1.below hbA (Nat.le_refl _)
  have X2 := X1.below hbA (Nat.le_refl _)
  have B2 := B1.trans (hbA.mono B1s)
  have hv2 := hv1.below hbA (Nat.le_refl _)
  have hs2 : (w1.alloc (.cells #[.int .i64 m, .slice (some ⟨gT, 0, none⟩) (k + 1) cT] 31)).heap.size = w1.heap.size + 1 := by simp
  have how2 := how.stay (u' := w1.alloc (.cells #[.int .i64 m, .slice (some ⟨gT, 0, none⟩) (k + 1) cT] 31)) (fun j _ hj => hbA.block j (by omega))
  generalize w1.alloc (.cells #[.int .i64 m, .slice (some ⟨gT, 0, none⟩) (k + 1) cT] 31) = w2 at O2 R2 X2 B2 hv2 hs2 how2 ⊢
  clear hbA how R1 X1 B1 hv1
  rw [cutTo_0 k t] at how2
  obtain ⟨hi, hhi⟩ : ∃ hi, hi = w1.heap.size := ⟨_, rfl⟩
  obtain ⟨lo, hlo⟩ : ∃ lo, lo = w0.heap.size := ⟨_, rfl⟩
  rw [← hhi, ← hlo] at how2
  rw [← hhi] at hs2 hg2 O2 B1s hb1s ⊢
  rw [← hlo] at hg1 hb1s X0l R0l B0s
  clear hhi hlo
  have B2s := B2.size
  go_loopw [15] (fun i wr => ∃ q : Nat, q ≤ k + 1 ∧ i = .int .i64 q ∧ OwSU us lo hi wr (.slice (some ⟨gT, 0, none⟩) (k + 1) cT) (cutTo k t q) ∧ Chg lo hi w2 wr) (fun i _ => k + 1 - (intOf i).toNat)
  case atStart => exact ⟨0, Nat.zero_le _, rfl, how2, Chg.refl _ _ _⟩
  case round =>
    clear how2
    obtain ⟨q, hq, rfl, hO, hC⟩ := hrel
    have Bw := hC.below B2 (by omega) B2s
    have Xw := X2.chg hC (.inl (by omega))
    have Ow := O2.chg hC (.inr (by omega))
    have Rw := R2.chg hC (.inl (by omega))
    have hvw := hv'.below Bw (Nat.le_refl _)
    by_cases hql : q < k + 1
    · have i1 : (q : Int) < (k : Int) + 1 := by omega
      have i0 : (0 : Int) ≤ (q : Int) := by omega
      have i2 : (q : Int) < ((k + 1 : Nat) : Int) := by omega
      have i3 : (q : Int) < (n : Int) := by omega
      obtain ⟨x0, x1⟩ := id Xw
      obtain ⟨y0, y1⟩ := id Ow
      obtain ⟨rP, hrPe⟩ : ∃ rP, rP = mk (k + 1 - q) (fun b => if q < q then atT t q b else 0) := ⟨_, rfl⟩
      have hrP : (cutTo k t q)[q]? = some rP := by rw [hrPe]; exact tri_get hql
      have hrPl : rP.length = k + 1 - q := by rw [hrPe, mk_len]
      obtain ⟨oP, cP, huP, cxP, howP, hblP, hsetP⟩ := hO.at hrP
      rw [hrPl] at huP cxP howP hblP hsetP
      obtain ⟨gP, rfl, hgP1, hgP2⟩ := howP.row (by omega)
      have hgP3 := hblP gP rfl
      obtain ⟨rT, hrT, hrTl, hrTj⟩ := HT.out.row (show q < n by omega)
      obtain ⟨o2, c2, cy, ry⟩ := hvw.row hrT
      rw [hrTl] at cy ry
      obtain ⟨b2, f2, rfl, -⟩ := ry.cells (by omega)
      have HTk := Lib.hid (take_row HT.out hql (by omega) hrT)
      have HS := Lib.hid (cutTo_set (t := t) hql)
      have HSP := Lib.hid hsetP
      have HownP := Lib.hid howP
      have Hl := Lib.hid hrPl
      clear hsetP howP huP hblP hrP hrPe hrT hrTl hrTj hrPl
      obtain ⟨w4, hcp, hO3, hgr⟩ := run_cpI wr 3 lo gP (k + 1 - q) cP rP HownP.out b2 f2 (n - q) c2 rT ry (by omega)
      go_wp2_with fail
      rw [HTk.out] at hO3
      have hOn := HSP.out _ _ (mk_len _ _) hgr hO3
      rw [HS.out] at hOn
      have hCn := hC.grown hgr hgP3.1 hgP3.2.1
      exact ⟨⟨q + 1, by omega, by go_num, hOn, hCn⟩, by simp [intOf]; omega⟩
    · obtain rfl : q = k + 1 := by omega
      rw [cutTo_all] at hO
      have i1 : ¬ (((k + 1 : Nat) : Int) < (k : Int) + 1) := by omega
      obtain ⟨y0, y1⟩ := id Ow
      obtain ⟨⟨r0, r1⟩, rf⟩ := id Rw
      have hOs := hO.r.ow
      go_wp2
      refine bodyPost_ret (v := .agg #[.int .i64 m, .slice (some ⟨gT, 0, none⟩) (k + 1) cT]) (by simp [results, Tryz.results59, go_sem, r0, r1]) rfl ⟨_, rfl, ?_, ?_⟩
      · exact ((hOs.low (by omega) _).low (by omega) _).mono (by omega)
      · (repeat (first | exact Below.refl _ _ | (refine Below.setCell ?_ (by first | (simp; done) | (simp; omega) | omega) _) | (refine Below.alloc ?_ (by first | (simp; done) | (simp; omega) | omega) _) | (refine below_drewN ?_ _) | (refine Below.drew ?_) | (refine Below.trans ?_ (Below.mono Bw (by first | (simp; done) | (simp; omega) | omega)))))
end Go.Proofs.YtoednonijmkbjaaGreat
