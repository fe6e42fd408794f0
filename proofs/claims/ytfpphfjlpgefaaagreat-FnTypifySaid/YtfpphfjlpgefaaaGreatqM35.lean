/- Lemmas. -/
import Derived.Test.YtfpphfjlpgefaaaGreatqM34
import Derived.Test.YtfpphfjlpgefaaaGreatqG2
import Derived.Laws.CopyOwn
import Derived.Test.YtfpphfjlpgefaaaGreatqM22
import Derived.Test.YtfpphfjlpgefaaaGreatqM6
import Derived.Test.YtfpphfjlpgefaaaGreatqM20
import Derived.Test.YtfpphfjlpgefaaaGreatqM30
import Derived.Test.YtfpphfjlpgefaaaGreatqM5
import Derived.Test.YtfpphfjlpgefaaaGreatqM13
set_option maxHeartbeats 2000000
set_option maxRecDepth 100000
set_option linter.unusedSimpArgs false
set_option linter.unusedVariables false
namespace Go.Proofs.YtfpphfjlpgefaaaGreat
open Go.RowKit
section
open Rg

theorem qLP (m : Int) (n : Nat) : Hm m n onx where
 ad x y := by
  funext i j
  show (if j = 0 then x i + y i else 0) = (if j = 0 then x i else 0) + (if j = 0 then y i else 0)
  split <;> simp
 zz := by
  funext i j
  show (if j = 0 then (0 : Int) else 0) = 0
  split <;> rfl
 ic c := qAf (by
  funext i j
  show (if j = 0 then (if i = 0 then c else 0) else 0) = ((if i = 0 then (ic c : Nat → Int) else zz) : Nat → Int) j
  by_cases hi : i = 0
  ·rw [if_pos hi, if_pos hi]; rfl
  ·rw [if_neg hi, if_neg hi]
   show (if j = 0 then (0 : Int) else 0) = 0
   split <;> rfl)
 ml x y := qAf (qLE x y)
 lo k x _ h := fun i j => by
  show Rg.lo m (k - i - j) (if j = 0 then x i else 0)
  by_cases hj : j = 0
  ·rw [if_pos hj, hj]; exact h i
  ·rw [if_neg hj]; exact lo_zz m _
theorem qLH (m : Int) (n : Nat) : Hm m n ony where
 ad x y := by
  funext i j
  show (if i = 0 then x j + y j else 0) = (if i = 0 then x j else 0) + (if i = 0 then y j else 0)
  split <;> simp
 zz := by
  funext i j
  show (if i = 0 then (0 : Int) else 0) = 0
  split <;> rfl
 ic c := qAf (by
  funext i j
  show (if i = 0 then (if j = 0 then c else 0) else 0) = ((if i = 0 then (ic c : Nat → Int) else zz) : Nat → Int) j
  by_cases hi : i = 0
  ·rw [if_pos hi, if_pos hi]; rfl
  ·rw [if_neg hi, if_neg hi]; rfl)
 ml x y := qAf (qIs x y)
 lo k x _ h := fun i j => by
  show Rg.lo m (k - i - j) (if i = 0 then x j else 0)
  by_cases hi : i = 0
  ·rw [if_pos hi, hi]; exact h j
  ·rw [if_neg hi]; exact lo_zz m _
theorem at_lo {m : Int} {f : Nat → Int} (h : lo m 1 f) : f 0 % m = 0 := by
 have := h 0
 rcases this with h | h
 ·omega
 ·exact Int.emod_eq_zero_of_dvd h
theorem qOQ {m : Int} {N n : Nat} (hN : 2 ≤ N) (h2 : 2 ≤ n) (hn : n < N) (b : Int) {X : Nat → Int} (hX : lo m 1 X) : eqv m 2 (ev1 N (ad xS (mon n b)) X) X := by
 have H : Hm m N (fun u => Go.Proofs.YtfpphfjlpgefaaaGreat.ev1 N u X) := hm1 hX
 have e : Go.Proofs.YtfpphfjlpgefaaaGreat.ev1 N (ad xS (mon n b)) X = ad X (ml (ic b) (pw X n)) := by
  rw [H.ad, qEj (m := m) hN]
  congr 1
  unfold Go.Proofs.YtfpphfjlpgefaaaGreat.ev1 ex mon; exact qHt hn b (fun i => pw X i)
 rw [e]
 exact qA2 (qAM qAY (qAo (lo_le (qBC _ (qAu hX n)) h2))) (qAf (ad_zz X))
section hom
variable {p D : Nat} {m : Int} {t : Tb}
structure TyH (m : Int) (N : Nat) (t T : Tb) (cv : Li) : Prop where
 z : at0 cv 0 = 0
 o : at0 cv 1 = 1
 h : eqv m N (ev1 N (at0 cv) (atT t)) (ev2 N (atT T) (onx (at0 cv)) (ony (at0 cv)))
theorem TyH.var {N : Nat} (hN : 2 ≤ N) (t : Tb) : TyH m N t t (qAk N) := by
 have h0 : at0 (qAk N) 0 = 0 := by rw [qEV Oo]; rfl
 have hx : at0 (qAk N) = xS := by
  funext i
  rw [qEV Oo]
 refine ⟨h0, by rw [qEV Oo]; rfl, ?_⟩
 rw [qGn (m := m) hN]
 have e1 : onx (at0 (qAk N)) = xP := by
  funext i j
  rw [hx, qD_]
  show (if j = 0 then mon 1 1 i else 0) = _
  unfold mon
  by_cases hj : j = 0
  ·by_cases hi : i = 1
   ·rw [if_pos hj, if_pos hi, if_pos ⟨hi, hj⟩]
   ·rw [if_pos hj, if_neg hi, if_neg (fun h => hi h.1)]
  ·rw [if_neg hj, if_neg (fun h => hj h.2)]
 have e2 : ony (at0 (qAk N)) = yP := by
  funext i j
  rw [hx, qDY]
  show (if i = 0 then mon 1 1 j else 0) = _
  unfold mon
  by_cases hi : i = 0
  ·by_cases hj : j = 1
   ·rw [if_pos hi, if_pos hj, if_pos ⟨hi, hj⟩]
   ·rw [if_pos hi, if_neg hj, if_neg (fun h => hj h.2)]
  ·rw [if_neg hi, if_neg (fun h => hi h.1)]
 rw [e1, e2]
 exact qAQ (qDr (atT t))
theorem TyH.step {N n : Nat} {T : Tb} {cv : Li} (H : TyH m N t T cv) (hm : 2 ≤ m) (hT : PlaT m N T) (L : Lw m N (atT T)) (ht0 : atT t 0 0 = 0) (h2 : 2 ≤ n) (hn : n < N) (y : Int) : TyH m N t (qB7 m N T (qAe m N n y)) (qAH m N cv (qAe m N n y)) := by
 have hN : 2 ≤ N := Oo
 have gl := qF6 m N n y
 have g0 := qHq m h2 hn y
 have g1 := qHO m h2 hn y
 have C := qFB hm hN hT gl g0 g1
 have ga := qGj m h2 hn y
 obtain ⟨G, hG⟩ : ∃ G, G = qAe m N n y := ⟨_, rfl⟩
 rw [← hG] at gl g0 g1 C ga ⊢
 have lc : lo m 1 (at0 cv) := qDc H.z
 have lF : lo m 1 (atT t) := lo_atT ht0
 have hc' : eqv m N (at0 (qAH m N cv G)) (ev1 N (at0 G) (at0 cv)) := qKh cv G Oo
 have hr : ∀ i, i < N → 0 ≤ at0 (qAH m N cv G) i ∧ at0 (qAH m N cv G) i < m := fun i hi => qEy Oo _ (by rw [qDT (by rw [qDo]; exact hi)]; exact List.getElem_mem _)
 have z0 : at0 (qAH m N cv G) 0 = 0 := by
  have e := qBP.1 hc' 0 Oo; rw [at_lo (qBa (qDc g0) Oo lc), Int.emod_eq_of_lt (hr 0 Oo).1 (hr 0 Oo).2] at e; exact e
 have z1 : at0 (qAH m N cv G) 1 = 1 := by
  have e := qBP.1 hc' 1 Oo; have e2 := qBP.1 (qOQ (m := m) hN h2 hn (y * qAI m (lam n % m) % m) lc) 1 Oo; rw [← ga] at e2; rw [e2, H.o, Int.emod_eq_of_lt (hr 1 Oo).1 (hr 1 Oo).2, Int.emod_eq_of_lt Oo Oo] at e; exact e
 refine ⟨z0, z1, ?_⟩
 have lX : lo m 1 (onx (at0 cv)) := qFd H.z
 have lY : lo m 1 (ony (at0 cv)) := qFF H.z
 have a1 := qA2 (qED lF (nl _) hc') (qA2 (qFZ lF (at0 G) (at0 cv)) (qC2 (at0 G) H.h))
 have bx : eqv m N (onx (at0 (qAH m N cv G))) (ev1 N (at0 G) (onx (at0 cv))) := qA2 ((qLP m N).eqv (nl _) hc') (qHQ (qLP m N) (at0 G) (at0 cv))
 have by_ : eqv m N (ony (at0 (qAH m N cv G))) (ev1 N (at0 G) (ony (at0 cv))) := qA2 ((qLH m N).eqv (nl _) hc') (qHQ (qLH m N) (at0 G) (at0 cv))
 have b1 := qFP (n := N) (F := atT (qB7 m N T G)) (G := atT (qB7 m N T G)) (qFd z0) (qFF z0) (Nat.le_refl N) (fun _ _ _ => rfl) bx by_
 exact qA2 a1 (qAQ (qA2 b1 (C.hom L lX lY)))
theorem qMY {e : Nat} (hp : P4 p) (hm : 2 ≤ m) (hm' : m = ((p ^ e : Nat) : Int)) (hD1 : 1 ≤ D) (hD : D ≤ 10) (ht : PlaT m (D + 1) t) (L : Lw m (D + 1) (atT t)) :
  ∀ k, k + 1 ≤ D → TyH m (D + 1) t (tyS p m (D + 1) t k).1 (tyS p m (D + 1) t k).2.2 := by
 intro k
 induction k with
 | zero => intro _; exact TyH.var Oo t
 | succ k ih =>
   intro hk; have H := ih Oo; have I := qG4 hp hm hm' hD1 hD ht L k Oo; obtain ⟨T, hT⟩ : ∃ T, T = tyS p m (D + 1) t k := ⟨_, rfl⟩
   have hS : tyS p m (D + 1) t (k + 1) = if qAS p (k + 2) = true then (T.1, T.2.1 ++ [qAB p m T.1 (k + 2) T.2.1], T.2.2)
    else (qB7 m (D + 1) T.1 (qAe m (D + 1) (k + 2) (qAB p m T.1 (k + 2) T.2.1)), T.2.1, qAH m (D + 1) T.2.2 (qAe m (D + 1) (k + 2) (qAB p m T.1 (k + 2) T.2.1))) := by rw [hT]; rfl
   rw [← hT] at H I; rw [hS]; cases hpw : qAS p (k + 2)
   ·rw [if_neg (by simp)]; exact H.step hm I.ok I.lw L.zer Oo Oo _
   ·rw [if_pos rfl]; exact H
theorem qOY {e : Nat} (hp : P4 p) (hm : 2 ≤ m) (hm' : m = ((p ^ e : Nat) : Int)) (hD1 : 1 ≤ D) (hD : D ≤ 10) (ht : PlaT m (D + 1) t) (L : Lw m (D + 1) (atT t)) :
  ∃ (ls cv : Li), ls = (tyS p m (D + 1) t (D - 1)).2.1 ∧ cv = (tyS p m (D + 1) t (D - 1)).2.2 ∧ ls.length = qA4 p D ∧ (∀ x ∈ ls, 0 ≤ x ∧ x < m) ∧ cv.length = D + 1 ∧ (∀ x ∈ cv, 0 ≤ x ∧ x < m) ∧ at0 cv 0 = 0 ∧ at0 cv 1 = 1 ∧
    qAK m (D + 1) t cv = qBw m (D + 1) (qA7 p m D ls) cv cv := by
 have I := qG4 hp hm hm' hD1 hD ht L (D - 1) Oo
 have H := qMY hp hm hm' hD1 hD ht L (D - 1) Oo
 have hlen := I.len
 rw [show D - 1 + 1 = D by omega] at hlen
 refine ⟨_, _, rfl, rfl, hlen, I.rng, I.clen, I.crng, H.z, H.o, ?_⟩
 have P := qDz (m := m) Oo p D (tyS p m (D + 1) t (D - 1)).2.1
 have hT : (tyS p m (D + 1) t (D - 1)).1 = qA7 p m D (tyS p m (D + 1) t (D - 1)).2.1 := qHE I.ok P (qAJ.2 fun i j h => by rw [qIT h]; exact I.agr i j Oo)
 have := H.h
 rw [hT] at this
 exact (qQz Oo ht P H.z I.clen L.zer).2 this
end hom
end
section
open Go

theorem info_j : (Tryz.prog.info? 3).map (fun i => (i.zero, i.size, i.bytes)) = some (some (.int .i64 0), 1, 8) := kr
def OwJ (w : World) (B : Nat) (v : Value) (xs : Li) : Prop := w.ownsRow B 3 1 v xs.length (xs.map (Value.int .i64))
theorem OwJ.rd {w : World} {B : Nat} {v : Value} {xs : Li} (h : OwJ w B v xs) : RdI w v xs := by
 obtain ⟨h1, h2⟩ := h
 rcases h2 with ⟨rfl, h0⟩ | ⟨g, cap, cur, rfl, hg, hh, hn, hcm, hcs, ht⟩
 ·have : xs = [] := List.eq_nil_of_length_eq_zero h0; subst this; exact RdI.nil w
 ·refine ⟨_, _, rfl, ⟨Oo, hn, fun h => by cases h⟩, fun k x hx => ⟨g, 0, rfl, ?_⟩⟩; have := World.ownsRow.cells (w := w) (base := B) (e := 3) (size := 1) (v := .slice (some ⟨g, 0, none⟩) xs.length cap) (n := xs.length) (xs := xs.map (Value.int .i64)) ⟨h1, .inr ⟨g, cap, cur, rfl, hg, hh, hn, hcm, hcs, ht⟩⟩ (g := g) rfl k (.int .i64 x) (by simp [hx])
  have e : (⟨g, 0, none⟩ : Addr).add k = ⟨g, 0 + k, none⟩ := by unfold Addr.add; split <;> simp_all
  rw [e] at this; exact this
theorem OwJ.lt {w : World} {B : Nat} {v : Value} {xs : Li} (h : OwJ w B v xs) : ∀ k, v.ownBlock = some k → B ≤ k ∧ k < w.heap.size := World.ownsRow.lt h
theorem OwJ.lit (w : World) (ys : Li) (h : ys.length ≤ maxLen) : OwJ (w.alloc (.cells (ys.map (Value.int .i64)).toArray 3)) w.heap.size (.slice (some ⟨w.heap.size, 0, none⟩) ys.length ys.length) ys := by
 have := World.ownsRow_lit (base := w.heap.size) (e := 3) (size := 1) w (ys.map (Value.int .i64)).toArray ys.length (nl _) h (by simp)
 simpa [OwJ] using this
theorem apJ {ops : Array Oper} {rest : List Oper} {o : Oper} {a : Act} {Q : Exit → Act → World → Prop} (w : World) (hg : o.guard = none) (s x : Operand) (hop : o.op = .call { callee := .builtin .append, args := #[s, x], argTypes := #[125, 125] })
  (B : Nat) (v : Value) (xs : Li) (hs : a.eval s = v) (hown : OwJ w B v xs) (y : Int) (hx : a.eval x = .slice (some ⟨w.heap.size, 0, none⟩) 1 1)
  (hn : xs.length < 1099511627776) (hB : B ≤ w.heap.size)
  (hK : ∀ v' w', OwJ w' B v' (xs ++ [y]) → Below B w w' → wpList Tryz.prog ops Q rest (a.put o.dst v') w') :
  wpList Tryz.prog ops Q (o :: rest) a (w.alloc (.cells #[.int .i64 y] 3)) := by
 obtain ⟨i0, hi, hz0, hz1, hz2⟩ := info_parts info_j
 refine wpList_append_own _ hg s x 125 hop B 3 i0 (.int .i64 0) 1 8 Tryz.underlying125 hi hz0 hz1 hz2 rfl (by decide) v xs.length (xs.map (Value.int .i64)) hs (World.ownsRow.alloc hown _) ⟨w.heap.size, 0, none⟩ 1 1 [.int .i64 y] hx rfl (cell_one_new _ _ _) (ints_oneCell .i64 [y]) (by unfold maxLen; omega) Oo (by simp; omega) ?_
 intro v' w' hown' hgrow _
 refine hK v' w' (by unfold OwJ; rw [List.length_append, List.map_append]; exact hown') ?_
 refine Below.grown (((Below.refl B w)).alloc hB _) hgrow (by simp; omega) ?_
 intro k hk
 exact (OwJ.lt hown k hk).1

theorem qQV (w : World) (ty : TypeId) (B g n c : Nat) (xs : Li) (hown : OwI w B (.slice (some ⟨g, 0, none⟩) n c) xs) (b f n' c' : Nat) (ys : Li) (hr : RdI w (.slice (some ⟨b, f, none⟩) n' c') ys) (hn : n ≤ n') :
  ∃ w', (Builtin.copy_ #[28, 28] ty #[.slice (some ⟨g, 0, none⟩) n c, .slice (some ⟨b, f, none⟩) n' c']).run Tryz.prog w = .ok (goInt n) w' ∧ OwI w' B (.slice (some ⟨g, 0, none⟩) n c) (ys.take n) ∧ w.grownBy w' (some g) := by
 obtain ⟨i0, hi, hz0, hz1, hz2⟩ := info_parts qCy
 have hln := hown.len
 obtain ⟨h1, h2⟩ := hown
 rcases h2 with ⟨h, _⟩ | ⟨g1, cap1, cur, hv, hg, hh, hnc, hcm, hcs, ht⟩
 ·simp at h
 obtain ⟨e1, e2, e3⟩ := Value.slice.inj hv
 obtain rfl : g = g1 := by simpa using e1
 subst e3
 obtain ⟨o', c2, heq, hm, hc⟩ := hr
 obtain ⟨rfl, rfl, rfl⟩ : some ⟨b, f, none⟩ = o' ∧ n' = ys.length ∧ c' = c2 := by simpa using heq
 have hcl : ((ys.take n).map (Value.int .i64)).length = n := by simp; omega
 have hrun := run_copy_row (P := Tryz.prog) w 28 28 ty 2 g 0 n c ⟨b, f, none⟩ ys.length c' cur 2 ((ys.take n).map (Value.int .i64)) Tryz.underlying28 (by rw [hi]; simp [hz1]) hh (by rw [hcl]; exact (Nat.min_eq_right hn).symm) (fun j u hj => by
  simp only [List.getElem?_map, Option.map_eq_some_iff] at hj; obtain ⟨y, hy, rfl⟩ := hj; rw [List.getElem?_take] at hy
  split at hy
  ·obtain ⟨b', f', hb, hcell⟩ := hc j y hy; obtain ⟨rfl, rfl⟩ : b = b' ∧ f = f' := by simpa using hb
   rw [Addr.add_lit]; exact hcell
  ·simp at hy) (by rw [hcl]; omega) (ints_oneCell .i64 _)
 rw [hcl] at hrun
 refine ⟨_, hrun, ⟨by (first | (simp; done) | (simp; omega)), .inr ⟨g, c, _, by simp; omega, hg, setRow_heap w g cur _ _ _ hh, by simp; omega, hcm, ?_, ?_⟩⟩, ⟨rfl, rfl, rfl, by simp, fun k _ hk => setRow_other w g k _ (fun e => hk (by rw [e]))⟩⟩
 ·first | (simp; done) | (simp; omega)
 ·simp
end
section

theorem qPC (p n : Nat) (w : World) (hp : P4 p) (hn : n ≤ 10) :
  Calls Tryz.prog 124 #[.int .i64 p, .int .i64 n] w fun e w' => ∃ v', e = .returned v' ∧ RdI w' v' (mk (qA4 p n) (fun k => ((p ^ (k + 1) : Nat) : Int))) ∧ Below w.heap.size w w' := by
 have hp2 := hp.pos
 go_enter Tryz.func124, Tryz.ntmps124
 go_wp2_with fail
 have O1 := OwJ.lit w [] (by decide)
 simp at O1
 have B1 : Below w.heap.size w (w.alloc (.cells #[] 3)) := bZ
 generalize w.alloc (.cells #[] 3) = w1 at O1 B1 ⊢
 go_loopw [5, 6] (fun s i wr => ∃ k : Nat, k ≤ qA4 p n ∧ i = .int .i64 ((p ^ (k + 1) : Nat) : Int) ∧ OwJ wr w.heap.size s (mk k (fun k => ((p ^ (k + 1) : Nat) : Int))) ∧ Below w.heap.size w wr) (fun s _ _ => qA4 p n - (match s with | .slice _ n _ => n | _ => 0))
 case atStart => exact ⟨0, Nat.zero_le _, by simp, O1, B1⟩
 case round =>
  clear O1 B1; obtain ⟨k, hk, rfl, hO, hB⟩ := hrel; obtain ⟨ov, cv, e, -⟩ := hO.rd; rw [qA8] at e; subst e; obtain ⟨k1, k2, k3, k4⟩ := qBq hp hn hk; have hBs := hB.size
  by_cases hlt : k < qA4 p n
  ·have i1 : ((p ^ (k + 1) : Nat) : Int) ≤ (n : Int) := by have := k3.2 hlt; omega
   have hpp : p ^ (k + 1) * p = p ^ (k + 1 + 1) := (Nat.pow_succ ..).symm; have hle : p ^ (k + 1) * p ≤ 100 * 7 := Nat.mul_le_mul k4 hp2.2
   have e1 : IntKind.i64.wrap (((p ^ (k + 1) : Nat) : Int) * (p : Int)) = ((p ^ (k + 1 + 1) : Nat) : Int) := by
    have h : ((p ^ (k + 1) : Nat) : Int) * (p : Int) = ((p ^ (k + 1) * p : Nat) : Int) := by simp
    rw [h, ← hpp]; exact IntWalk.i64_in _ Oo
   have HS := dd (qCN k (fun k => ((p ^ (k + 1) : Nat) : Int))); generalize hA : p ^ (k + 1) = A at i1 e1 HS ⊢; generalize hB2 : p ^ (k + 1 + 1) = A2 at e1 ⊢; have HA2 := dd hB2; clear hA hB2 hpp hle k1 k3 k4
   go_wp2_with (at_builtin; go_loud (refine apJ wr rfl _ _ rfl w.heap.size (.slice ov k cv) _ rfl hO _ rfl (by rw [qA8]; omega) Oo ?_; intro v' w4 hO3 hb3))
   rw [← HS.out] at hO3; obtain ⟨o3, c3, e3, -⟩ := hO3.rd; rw [qA8] at e3; subst e3; exact ⟨⟨k + 1, Oo, by rw [HA2.out], hO3, hB.trans hb3⟩, by simp; omega⟩
  ·obtain rfl : k = qA4 p n := Oo
   have i1 : ¬ ((p ^ (qA4 p n + 1) : Nat) : Int) ≤ (n : Int) := by
    have : ¬ p ^ (qA4 p n + 1) ≤ n := fun h => by have := k3.1 h; omega
    omega
   generalize p ^ (qA4 p n + 1) = A at i1 ⊢; go_wp2; go_ret; exact ⟨_, rfl, hO.rd, hB⟩

def qEc (k : Nat) (t : Tb) (q : Nat) : Tb := tri (k + 1) (fun a b => if a < q then atT t a b else 0)
theorem qMF (k : Nat) (t : Tb) : qAb (k + 1) = qEc k t 0 := qAE fun a b _ => by rw [if_neg Oo]
theorem qQM (k : Nat) (t : Tb) : qEc k t (k + 1) = qA_ (k + 1) t := qAE fun a b _ => by rw [if_pos Oo]
theorem qQv {k q : Nat} {t : Tb} (h : q < k + 1) : (qEc k t q).set q (mk (k + 1 - q) (atT t q)) = qEc k t (q + 1) := by
 unfold qEc
 apply List.ext_getElem?
 intro a
 rw [List.getElem?_set]
 by_cases e : q = a
 ·subst e; rw [if_pos rfl, if_pos (by rw [qA9]; exact h), qAp h]; exact congrArg some (qAh fun j _ => by rw [if_pos Oo])
 ·rw [if_neg e]
  by_cases ha : a < k + 1
  ·rw [qAp ha, qAp ha]; refine congrArg some (qAh fun j _ => ?_)
   by_cases h' : a < q
   ·rw [if_pos h', if_pos Oo]
   ·rw [if_neg h', if_neg Oo]
  ·rw [List.getElem?_eq_none (by rw [qA9]; omega), List.getElem?_eq_none (by rw [qA9]; omega)]

theorem qLO (m M : Int) (n k : Nat) (v : Value) (t : Tb) (w : World) (hv : RdT w v t) (ht : PlaT M n t) (h1 : 1 ≤ k) (hk : k + 1 ≤ n) (hn : n ≤ 100) :
  Calls Tryz.prog 109 #[.agg #[.int .i64 m, v], .int .i64 k] w fun e w' => qC9 w w' m (qA_ (k + 1) t) e := by
 obtain ⟨o, c, rfl, hmx, -⟩ := id hv
 rw [ht.1] at hmx ⊢
 have hv' : RdT w (.slice o n c) t := by rw [ht.1] at hv; exact hv
 obtain ⟨bx, fx, rfl, -⟩ := hv'.rows (by rw [ht.1]; omega)
 have HT := dd ht
 clear hv ht
 go_enter Tryz.func109, Tryz.ntmps109
 go_wp2_with fail
 (obtain ⟨w0, hw0⟩ : ∃ W : World, W = ((w.alloc (.cells #[.int .i64 m, .slice (some ⟨bx, fx, none⟩) n c] 26)).alloc (.cells #[.int .i64 0, .slice none 0 0] 26)) := ⟨_, rfl⟩; have X0 := (RB2.mk1 w  (.int .i64 m) (.slice (some ⟨bx, fx, none⟩) n c) 26).1.below (w' := w0) (bV hw0) (nl _); have R0 := (RB2.mk2 w (.cells #[.int .i64 m, .slice (some ⟨bx, fx, none⟩) n c] 26) (.int .i64 0) (.slice none 0 0) 26).below (w' := w0) (bV hw0) (nl _); have B0 : Below w.heap.size w w0 := (bV hw0); have hv'0 := hv'.below (w' := w0) (bV hw0) (nl _); rw [← hw0]; clear hw0)
 refine (qDy m (k : Int) (k + 1) _ Oo Oo).mono ?_
 rintro e w1 ⟨vz, rfl, how, hb1⟩
 obtain ⟨oT, cT, rfl⟩ := how.shapeN (n := k + 1) (qBm _)
 have hb1s := hb1.size
 have R1 := R0.below hb1
 have X1 := X0.below hb1
 have B1 := B0.trans (hb1.mono B0.size)
 have hv1 := hv'0.below hb1
 have how := how.toR
 obtain ⟨us, how⟩ := how.named
 obtain ⟨gT, rfl, hg1, hg2⟩ := how.row Oo
 have B0s := B0.size
 have X0l := X0.lt
 have R0l := R0.1.lt
 have B1s := B1.size
 clear hb1 X0 R0 B0 hv'0
 go_wp2_with fail
 have O2 := Box2.mk' w1 (.int .i64 m) (.slice (some ⟨gT, 0, none⟩) (k + 1) cT) 26
 have hbA : Below w1.heap.size w1 (w1.alloc (.cells #[.int .i64 m, .slice (some ⟨gT, 0, none⟩) (k + 1) cT] 26)) := bZ
 have R2 := R1.below hbA
 have X2 := X1.below hbA
 have B2 := B1.trans (hbA.mono B1s)
 have hv2 := hv1.below hbA
 have hs2 : (w1.alloc (.cells #[.int .i64 m, .slice (some ⟨gT, 0, none⟩) (k + 1) cT] 26)).heap.size = w1.heap.size + 1 := by simp
 have how2 := how.stay (u' := w1.alloc (.cells #[.int .i64 m, .slice (some ⟨gT, 0, none⟩) (k + 1) cT] 26)) (fun j _ hj => hbA.block j Oo)
 generalize w1.alloc (.cells #[.int .i64 m, .slice (some ⟨gT, 0, none⟩) (k + 1) cT] 26) = w2 at O2 R2 X2 B2 hv2 hs2 how2 ⊢
 clear hbA how R1 X1 B1 hv1
 rw [qMF k t] at how2
 obtain ⟨hi, hhi⟩ : ∃ hi, hi = w1.heap.size := ⟨_, rfl⟩
 obtain ⟨lo, hlo⟩ : ∃ lo, lo = w0.heap.size := ⟨_, rfl⟩
 rw [← hhi, ← hlo] at how2
 rw [← hhi] at hs2 hg2 O2 B1s hb1s ⊢
 rw [← hlo] at hg1 hb1s X0l R0l B0s
 clear hhi hlo
 have B2s := B2.size
 go_loopw [15] (fun i wr => ∃ q : Nat, q ≤ k + 1 ∧ i = .int .i64 q ∧ OwSU us lo hi wr (.slice (some ⟨gT, 0, none⟩) (k + 1) cT) (qEc k t q) ∧ Chg lo hi w2 wr) (fun i _ => k + 1 - (intOf i).toNat)
 case atStart => exact ⟨0, Nat.zero_le _, rfl, how2, Chg.refl _ _ _⟩
 case round =>
  clear how2; obtain ⟨q, hq, rfl, hO, hC⟩ := hrel; have Bw := hC.below B2 Oo B2s; have Xw := X2.chg hC (.inl Oo); have Ow := O2.chg hC (.inr Oo); have Rw := R2.chg hC (.inl Oo); have hvw := hv'.below Bw
  by_cases hql : q < k + 1
  ·have i1 : (q : Int) < (k : Int) + 1 := Oo; have i0 : (0 : Int) ≤ (q : Int) := Oo; have i2 : (q : Int) < ((k + 1 : Nat) : Int) := Oo; have i3 : (q : Int) < (n : Int) := Oo; obtain ⟨x0, x1⟩ := id Xw; obtain ⟨y0, y1⟩ := id Ow; obtain ⟨rP, hrPe⟩ : ∃ rP, rP = mk (k + 1 - q) (fun b => if q < q then atT t q b else 0) := ⟨_, rfl⟩; have hrP : (qEc k t q)[q]? = some rP := by rw [hrPe]; exact qAp hql
   have hrPl : rP.length = k + 1 - q := by rw [hrPe, qA8]
   obtain ⟨oP, cP, huP, cxP, howP, hblP, hsetP⟩ := hO.at hrP; rw [hrPl] at huP cxP howP hblP hsetP; obtain ⟨gP, rfl, hgP1, hgP2⟩ := howP.row Oo; have hgP3 := hblP gP rfl; obtain ⟨rT, hrT, hrTl, hrTj⟩ := HT.out.row (show q < n by omega); obtain ⟨o2, c2, cy, ry⟩ := hvw.row hrT; rw [hrTl] at cy ry; obtain ⟨b2, f2, rfl, -⟩ := ry.cells Oo; have HTk := dd (qIL HT.out hql Oo hrT); have HS := dd (qQv (t := t) hql); have HSP := dd hsetP; have HownP := dd howP; have Hl := dd hrPl; clear hsetP howP huP hblP hrP hrPe hrT hrTl hrTj hrPl; obtain ⟨w4, hcp, hO3, hgr⟩ := qQV wr 3 lo gP (k + 1 - q) cP rP HownP.out b2 f2 (n - q) c2 rT ry Oo
   go_wp2_with fail
   rw [HTk.out] at hO3; have hOn := HSP.out _ _ (qA8 _ _) hgr hO3; rw [HS.out] at hOn; have hCn := hC.grown hgr hgP3.1 hgP3.2.1; exact ⟨⟨q + 1, Oo, by go_num, hOn, hCn⟩, by simp [intOf]; omega⟩
  ·obtain rfl : q = k + 1 := Oo; rw [qQM] at hO; have i1 : ¬ (((k + 1 : Nat) : Int) < (k : Int) + 1) := Oo; obtain ⟨y0, y1⟩ := id Ow; obtain ⟨⟨r0, r1⟩, rf⟩ := id Rw; have hOs := hO.r.ow; go_wp2; refine bodyPost_ret (v := .agg #[.int .i64 m, .slice (some ⟨gT, 0, none⟩) (k + 1) cT]) (by simp [results, Tryz.results109, go_sem, r0, r1]) rfl ⟨_, rfl, ?_, ?_⟩
   ·exact ((hOs.low Oo _).low Oo _).mono Oo
   ·(repeat (first | exact bR _ _ | (refine bS ?_ _) | (refine bA ?_ _) | (refine bN ?_ _) | (refine bD ?_) | (refine bT ?_ Bw)))
end
section

def qEA (m : Int) (n k : Nat) : Tb := tri (n + 1) (fun i j => if i + j = n ∧ i < k then laz n i % m else 0)
def cocT (m : Int) (n : Nat) : Tb := tri (n + 1) (fun i j => if i + j = n then laz n i % m else 0)
theorem laz_0 (n : Nat) : laz n 0 = 0 := by unfold laz; rw [if_neg Oo]
theorem qPj (m : Int) (n : Nat) : qAb (n + 1) = qEA m n 1 := qAE fun i j _ => by
 by_cases h : i + j = n ∧ i < 1
 ·rw [if_pos h, show i = 0 by omega, laz_0, Int.zero_emod]
 ·rw [if_neg h]
theorem qMc (m : Int) (n : Nat) : qEA m n n = cocT m n := qAE fun i j _ => by
 by_cases h : i + j = n
 ·rw [if_pos h]
  by_cases h' : i < n
  ·rw [if_pos ⟨h, h'⟩]
  ·rw [if_neg (fun e => h' e.2), qJR Oo, Int.zero_emod]
 ·rw [if_neg (fun e => h e.1), if_neg h]
theorem qQi {m : Int} {n k : Nat} (hk : k < n) : (qEA m n k).set k ((mk (n + 1 - k) (fun j => if k + j = n ∧ k < k then laz n k % m else 0)).set (n - k) (laz n k % m)) = qEA m n (k + 1) := by
 unfold qEA
 rw [qBp (f := fun i j => if i + j = n ∧ i < k then laz n i % m else 0) Oo]
 refine qAE fun a b h => ?_
 by_cases e : a = k ∧ b = n - k
 ·obtain ⟨rfl, rfl⟩ := e; rw [if_pos ⟨rfl, rfl⟩, if_pos Oo]
 ·rw [if_neg e]
  by_cases e2 : a + b = n ∧ a < k
  ·rw [if_pos e2, if_pos Oo]
  ·rw [if_neg e2, if_neg Oo]

theorem qOT (m : Int) (n : Nat) (w : World) (h2 : 2 ≤ n) (hn : n ≤ 10) (hm : 2 ≤ m) (hm' : m ≤ 10000) :
  Calls Tryz.prog 173 #[.int .i64 m, .int .i64 n] w fun e w' => ∃ v', e = .returned v' ∧ OwS w' w.heap.size v' (cocT m n) ∧ Below w.heap.size w w' := by
 go_enter Tryz.func173, Tryz.ntmps173
 go_wp2_with fail
 refine (qCL _ (n + 1) _ Oo Oo).mono ?_
 rintro e w1 ⟨v1, rfl, how, hb1⟩
 obtain ⟨oT, cT, rfl⟩ := how.shapeN (n := n + 1) (qBm _)
 have hb1s := hb1.size
 go_wp2_with fail
 refine (qJK n _ h2 hn).mono ?_
 rintro e w2 ⟨rfl, hb2⟩
 have hb2s := hb2.size
 have B2 := hb1.trans (hb2.mono hb1s)
 have how := how.toR
 obtain ⟨us, how⟩ := how.named
 have how := how.stay (u' := w2) (fun k _ hk => hb2.block k Oo)
 obtain ⟨gT, rfl, hg1, hg2⟩ := how.row Oo
 rw [qPj m] at how
 obtain ⟨hi, hhi⟩ : ∃ hi, hi = w1.heap.size := ⟨_, rfl⟩
 rw [← hhi] at how hg2 hb2s hb1s
 obtain ⟨la1, la2⟩ := qF2 n h2 hn
 obtain ⟨L, hL⟩ : ∃ L, L = lam n := ⟨_, rfl⟩
 rw [← hL] at la1 la2 ⊢
 have HL := dd hL
 clear hL hb1 hb2 hhi
 have l1 : ¬ L = 0 := Oo
 have l2 : (L == 0) = false := by simp; omega
 have l3 : ¬ m = 0 := Oo
 have l4 : (m == 0) = false := by simp; omega
 go_wp2_with fail
 go_loopw [7] (fun i wr => ∃ k : Nat, 1 ≤ k ∧ k ≤ n ∧ i = .int .i64 k ∧ OwSU us w.heap.size hi wr (.slice (some ⟨gT, 0, none⟩) (n + 1) cT) (qEA m n k) ∧ Below w.heap.size w wr ∧ hi ≤ wr.heap.size) (fun i _ => n - (intOf i).toNat)
 case atStart => exact ⟨1, Nat.le_refl _, Oo, rfl, how, B2, hb2s⟩
 case round =>
  clear how B2 hb2s; obtain ⟨k, hk1, hk, rfl, hO, hB, hhw⟩ := hrel; have hBs := hB.size
  by_cases hlt : k < n
  ·have i1 : (k : Int) < (n : Int) := Oo; have i2 : (0 : Int) ≤ (k : Int) := Oo; have i3 : (k : Int) < (n : Int) + 1 := Oo; have i4 : (k : Int) < ((n + 1 : Nat) : Int) := Oo; have r2 := qDP hn k; have hq := qI6 h2 hn hk1 hlt; rw [← HL.out] at hq; have q0 : 0 ≤ laz n k ∧ laz n k ≤ 1024 := qHe h2 hn k; have rq := qA6 (a := laz n k) (show 0 < m by omega); have e3 : IntKind.i64.wrap (laz n k) = laz n k := IntWalk.i64_in _ Oo; have e4 : (laz n k).tmod m = laz n k % m := Int.tmod_eq_emod_of_nonneg q0.1; have e5 : IntKind.i64.wrap ((n : Int) - (k : Int)) = ((n - k : Nat) : Int) := by rw [IntWalk.i64_in _ Oo]; omega
   have HS := dd (qQi (m := m) hlt); have hrP : (qEA m n k)[k]? = some (mk (n + 1 - k) (fun j => if k + j = n ∧ k < k then laz n k % m else 0)) := qAp Oo; obtain ⟨rP, hrPe⟩ : ∃ rP, rP = mk (n + 1 - k) (fun j => if k + j = n ∧ k < k then laz n k % m else 0) := ⟨_, rfl⟩; rw [← hrPe] at HS hrP; have hrPl : rP.length = n + 1 - k := by rw [hrPe, qA8]
   have Hlen := dd hrPl; clear hrPe; obtain ⟨oP, cP, huP, cxP, -, hblP, -⟩ := hO.at hrP; rw [hrPl] at cxP
   go_wp2_with fail
   refine (qIz n k _ Oo hn).mono ?_; rintro e w4 ⟨rfl, hb4⟩; have hO4 := hO.stay (u' := w4) (fun k _ hk => hb4.block k Oo); have hb4s := hb4.size; have B4 := hB.trans (hb4.mono hBs); obtain ⟨oQ, cQ, huQ, cxQ, howP, hblQ, hsetP⟩ := hO4.at hrP; obtain ⟨rfl, rfl⟩ : oP = oQ ∧ cP = cQ := by rw [huP] at huQ; simp at huQ; exact huQ
   rw [hrPl] at howP hblQ hsetP cxQ; obtain ⟨gP, rfl, hgP1, hgP2⟩ := howP.row Oo; have hgP3 := hblQ gP rfl; have hfP := howP.fz (n - k); have hcP := howP.cell (k := n - k) (qA5 Oo); have HSP := dd hsetP; have HownP := dd howP; clear hsetP howP huP hblP hrP hrPl huQ hO hO4 cxP; have j5 : ((n - k : Nat) : Int) < ((n + 1 - k : Nat) : Int) := Oo; have j6 : n - k < n + 1 - k := Oo
   go_wp2_with fail
   have hg0 := qAw (World.grownBy.refl w4 (some gP)) (n - k) (.int .i64 (laz n k % m)); have hOn := HSP.out _ _ (by rw [List.length_set, Hlen.out]) hg0 (HownP.out.put (n - k) (laz n k % m)); rw [HS.out] at hOn; have hBn := qAL B4 (g := gP) (k := n - k) Oo (.int .i64 (laz n k % m)); exact ⟨⟨k + 1, Oo, Oo, by go_num, hOn, hBn, by simp; omega⟩, by simp [intOf]; omega⟩
  ·obtain rfl : k = n := Oo; rw [qMc] at hO; have hOs := hO.r.ow; have i1 : ¬ (k : Int) < (k : Int) := Oo; go_wp2; go_ret; exact ⟨_, rfl, hOs, hB⟩
end
section

theorem qO_ (a b : Int) : (a == b) = (b == a) := by rw [Bool.eq_iff_iff]; simp only [beq_iff_eq]; exact eq_comm

theorem qJY (m : Int) (n : Nat) (v : Value) (t : Tb) (w : World) (hv : RdT w v t) (ht : PlaT m (n + 1) t) (h2 : 2 ≤ n) (hn : n ≤ 10) (hm : 2 ≤ m) (hm' : m ≤ 10000) :
  Calls Tryz.prog 117 #[.int .i64 m, v] w fun e w' => e = .returned (.int .i64 (qAR m (laz n) (fun i => atT t i (n - i)) (n + 1) m.toNat)) ∧ Below w.heap.size w w' := by
 obtain ⟨M, rfl⟩ : ∃ M : Nat, m = M := ⟨m.toNat, Oo⟩
 obtain ⟨o, cv, rfl, hmx, -⟩ := id hv
 have hl := ht.1
 rw [hl] at hmx ⊢
 have hv' : RdT w (.slice o (n + 1) cv) t := by rw [hl] at hv; exact hv
 obtain ⟨bv, fv, rfl, -⟩ := hv'.rows Oo
 have HT := dd ht
 clear hv hl ht
 obtain ⟨D, hD⟩ : ∃ D, D = fun i => atT t i (n - i) := ⟨_, rfl⟩
 have HD := dd hD
 rw [← hD]
 clear hD
 go_enter Tryz.func117, Tryz.ntmps117
 go_wp2_with fail
 refine (qOT M n w h2 hn hm hm').mono ?_
 rintro e w1 ⟨vc, rfl, hO, hb1⟩
 obtain ⟨oc, cc, rfl⟩ := hO.shapeN (n := n + 1) (qA9 _ _)
 obtain ⟨gc, rfl, -, -⟩ := hO.row Oo
 have hC := hO.rd
 have hV := hv'.below hb1
 clear hv' hO
 go_wp2_with fail
 go_loopw [7] (fun i wr => ∃ (k : Nat) (d : Nat), k ≤ M ∧ i = .int .i64 k ∧ wr = w1.drewN d ∧ Hid (qAR M (laz n) D (n + 1) k = -1)) (fun i _ => M - (intOf i).toNat)
 case atStart => exact ⟨0, 0, Nat.zero_le _, rfl, rfl, dd rfl⟩
 case round =>
  obtain ⟨k, dr, hk, rfl, rfl, HK⟩ := hrel
  by_cases hlt : k < M
  ·have i0 : (k : Int) < (M : Int) := Oo
   go_wp2_with fail
   go_loopw [8, 9] (fun f i wr => ∃ (q : Nat) (d : Nat), q ≤ n + 1 ∧ i = .int .i64 q ∧ f = .bool (qAl M (laz n) D k q) ∧ wr = w1.drewN d) (fun _ i _ => n + 1 - (intOf i).toNat)
   case atStart => exact ⟨0, dr, Nat.zero_le _, rfl, rfl, rfl⟩
   case round =>
    obtain ⟨q, dq, hq, rfl, rfl, rfl⟩ := hrel
    by_cases hql : q < n + 1
    ·have i1 : (q : Int) ≤ (n : Int) := Oo; cases hB : qAl M (laz n) D k q
     ·have hF : qAl M (laz n) D k (n + 1) = false := by
       have := qLl hB (n + 1 - q)
       rwa [show q + (n + 1 - q) = n + 1 by omega] at this
      have HB := dd (qGg HK.out hF); go_wp2; exact ⟨⟨k + 1, _, Oo, by go_num, rfl, HB⟩, by simp [intOf]; omega⟩
     ·have i2 : (0 : Int) ≤ (q : Int) := Oo; have i3 : (q : Int) < ((n + 1 : Nat) : Int) := Oo; have i4 : (q : Int) < (n : Int) + 1 := Oo; have i5 : ((n - q : Nat) : Int) < ((n + 1 - q : Nat) : Int) := Oo; have i6 : (0 : Int) ≤ ((n - q : Nat) : Int) := Oo; obtain ⟨o1, c1, cx, rx⟩ := hC.row (qAp (f := fun i j => if i + j = n then laz n i % (M : Int) else 0) hql); rw [qA8, Nat.zero_add] at cx; rw [qA8] at rx; obtain ⟨b1, f1, rfl, -⟩ := rx.cells (by rw [qA8]; omega); have ex := rx.cell0 (qAy (f := fun j => if q + j = n then laz n q % (M : Int) else 0) (show n - q < n + 1 - q by omega)); rw [if_pos Oo] at ex; obtain ⟨rT, hrT, hrTl, hrTj⟩ := HT.out.row hql; obtain ⟨o2, c2, cy, ry⟩ := hV.row hrT; rw [hrTl] at cy ry; obtain ⟨b2, f2, rfl, -⟩ := ry.cells Oo; have ey := ry.cell0 (hrTj (n - q) Oo); have rt := qBT HT.out (show q + (n - q) < n + 1 by omega); have hDq : D q = atT t q (n - q) := by rw [HD.out]
      rw [← hDq] at ey rt; have rl := qHe h2 hn q; have rm := qA6 (a := laz n q) (show 0 < (M : Int) by omega); have m0 : ((M : Int) == 0) = false := by simp; omega
      have m1 : ¬ (M : Int) = 0 := Oo; have hp : 0 ≤ (k : Int) * (laz n q % (M : Int)) ∧ (k : Int) * (laz n q % (M : Int)) ≤ 10000 * 10000 := ⟨Int.mul_nonneg Oo rm.1, Int.mul_le_mul Oo Oo rm.1 Oo⟩; have e2 : IntKind.i64.wrap ((k : Int) * (laz n q % (M : Int))) = (k : Int) * (laz n q % (M : Int)) := IntWalk.i64_in _ Oo; have e3 : ((k : Int) * (laz n q % (M : Int))).tmod (M : Int) = (k : Int) * (laz n q % (M : Int)) % (M : Int) := Int.tmod_eq_emod_of_nonneg hp.1; have e5 : IntKind.i64.wrap ((n : Int) - (q : Int)) = ((n - q : Nat) : Int) := by rw [IntWalk.i64_in _ Oo]; omega
      have HF : Hid (qAl M (laz n) D k (q + 1) = ((k : Int) * (laz n q % (M : Int)) % (M : Int) == D q)) := dd (by
       show (qAl M (laz n) D k q && (D q % (M : Int) == (k : Int) * (laz n q % (M : Int)) % (M : Int))) = _
       rw [hB, Int.emod_eq_of_lt rt.1 rt.2, qO_]; rfl)
      clear hrT hrTl hrTj hDq; generalize D q = x at ey rt HF; generalize laz n q = y at ex rl rm hp e2 e3 HF; generalize hY : y % (M : Int) = Y at ex rm hp e2 e3 HF; clear hY
      go_wp2_with fail
      go_quiet (fail)
      go_wp2; exact ⟨⟨q + 1, _, Oo, by go_num, by rw [HF.out], (by first | rfl | (simp [World.drewN_drewN]; done))⟩, by simp [intOf]; omega⟩
    ·obtain rfl : q = n + 1 := Oo; have i1 : ¬ ((n + 1 : Nat) : Int) ≤ (n : Int) := Oo; have i1' : ¬ ((n : Int) + 1) ≤ (n : Int) := Oo; cases hB : qAl M (laz n) D k (n + 1)
     ·have HB := dd (qGg HK.out hB); go_wp2; exact ⟨⟨k + 1, _, Oo, by go_num, rfl, HB⟩, by simp [intOf]; omega⟩
     ·have HB := dd (qHg (M := M) HK.out hB Oo); go_wp2; go_ret; exact ⟨by rw [HB.out]; rfl, (bY1 hb1)⟩
  ·obtain rfl : k = M := Oo; have i1 : ¬ (k : Int) < (k : Int) := Oo; go_wp2; go_ret; exact ⟨by rw [HK.out]; rfl, (bY1 hb1)⟩
end
section

theorem qOH (m : Int) (o : Option Addr) (n c : Nat) (w : World) (hn : n ≤ maxLen) :
  Calls Tryz.prog 137 #[.agg #[.int .i64 m, .slice o n c]] w fun e w' => e = .returned (.int .i64 ((n : Int) - 1)) ∧ Below w.heap.size w w' := by
 unfold maxLen at hn
 go_enter Tryz.func137, Tryz.ntmps137
 go_wp2
 go_ret
 exact ⟨rfl, bZ⟩

def qBc (n : Nat) (t : Tb) (k : Nat) : Li := mk k (fun i => atT t i (n - i))
theorem qL4 (m M : Int) (n : Nat) (v : Value) (t : Tb) (w : World) (hv : RdT w v t) (ht : PlaT M (n + 1) t) (hn : n ≤ 100) :
  Calls Tryz.prog 110 #[.agg #[.int .i64 m, v]] w fun e w' => ∃ v', e = .returned v' ∧ OwI w' w.heap.size v' (qBc n t (n + 1)) ∧ Below w.heap.size w w' := by
 obtain ⟨o, c, rfl, hmx, -⟩ := id hv
 rw [ht.1] at hmx ⊢
 have hv' : RdT w (.slice o (n + 1) c) t := by rw [ht.1] at hv; exact hv
 obtain ⟨bx, fx, rfl, -⟩ := hv'.rows (by rw [ht.1]; omega)
 have HT := dd ht
 clear hv ht
 go_enter Tryz.func110, Tryz.ntmps110
 go_wp2_with fail
 have X0 := Box2.mk' w (.int .i64 m) (.slice (some ⟨bx, fx, none⟩) (n + 1) c) 26
 have B0 : Below w.heap.size w (w.alloc (.cells #[.int .i64 m, .slice (some ⟨bx, fx, none⟩) (n + 1) c] 26)) := bZ
 have hsz : (w.alloc (.cells #[.int .i64 m, .slice (some ⟨bx, fx, none⟩) (n + 1) c] 26)).heap.size = w.heap.size + 1 := by simp
 have hv0 := hv'.below B0
 generalize w.alloc (.cells #[.int .i64 m, .slice (some ⟨bx, fx, none⟩) (n + 1) c] 26) = w0 at X0 B0 hsz hv0 ⊢
 rw [← hsz]
 have HSZ := dd hsz
 clear hsz
 refine (qB9 m (some ⟨bx, fx, none⟩) (n + 1) c _ hmx.1).mono ?_
 rintro e w2 ⟨rfl, hb2⟩
 have hbA : Below w0.heap.size w0 (w0.alloc (.cells #[] 2)) := bZ
 have O1 := OwI.lit w0 [] (by decide)
 have O2 := O1.below hb2
 simp at O2
 have hB2 := hbA.trans (hb2.mono hbA.size)
 rw [show ([] : Li) = qBc n t 0 from rfl] at O2
 have hs0 := B0.size
 clear O1 hbA hb2 hv'
 have e0 : IntKind.i64.wrap ((n : Int) + 1) = (n : Int) + 1 := IntWalk.i64_in _ Oo
 skip
 go_wp2_with fail
 go_loopw [3, 11] (fun s i wr => ∃ k : Nat, k ≤ n + 1 ∧ i = .int .i64 k ∧ OwI wr w0.heap.size s (qBc n t k) ∧ Below w0.heap.size w0 wr) (fun _ i _ => n + 1 - (intOf i).toNat)
 case atStart => exact ⟨0, Nat.zero_le _, rfl, O2, hB2⟩
 case round =>
  clear O2 hB2; obtain ⟨k, hk, rfl, hO, hB⟩ := hrel; obtain ⟨ov, cv, rfl⟩ := hO.shapeN (n := k) (qA8 _ _); have hBs := hB.size
  by_cases hlt : k < n + 1
  ·have i1 : (k : Int) < (n : Int) + 1 := Oo; have i2 : (0 : Int) ≤ (k : Int) := Oo; have i3 : (k : Int) < ((n + 1 : Nat) : Int) := Oo; have i5 : ((n - k : Nat) : Int) < ((n + 1 - k : Nat) : Int) := Oo; have Xr := X0.below hB; obtain ⟨x0, x1⟩ := id Xr; have hvr := hv0.below hB; obtain ⟨rT, hrT, hrTl, hrTj⟩ := HT.out.row hlt; obtain ⟨o2, c2, cy, ry⟩ := hvr.row hrT; rw [hrTl] at cy ry; obtain ⟨b2, f2, rfl, -⟩ := ry.cells Oo; have ey := ry.cell0 (hrTj (n - k) Oo); have e5 : IntKind.i64.wrap ((n : Int) - (k : Int)) = ((n - k : Nat) : Int) := by rw [IntWalk.i64_in _ Oo]; omega
   have HS := dd (show qBc n t (k + 1) = qBc n t k ++ [atT t k (n - k)] from qCN _ _); clear hrT hrTl hrTj
   go_wp2_with (at_builtin; refine apI wr rfl _ _ rfl w0.heap.size (.slice ov k cv) _ rfl hO _ rfl (by unfold qBc; rw [qA8]; omega) Oo ?_; intro v' w4 hO3 hgr hb3 hlt3; clear hgr)
   rw [← HS.out] at hO3; exact ⟨⟨k + 1, Oo, by go_num, hO3, hB.trans hb3⟩, by simp [intOf]; omega⟩
  ·obtain rfl : k = n + 1 := Oo; have i1 : ¬ (((n + 1 : Nat) : Int) < (n : Int) + 1) := Oo; go_wp2; go_ret; exact ⟨_, rfl, hO.mono Oo, B0.trans (hB.mono hs0)⟩

theorem qJ4 (m : Int) (n : Nat) (v u : Value) (t s : Tb) (w : World) (hv : RdT w v t) (hu : RdT w u s) (hn : n ≤ 100) (hm : 2 ≤ m) (hm' : m ≤ 10000) (ht : PlaT m n t) (hs : PlaT m n s) :
  Calls Tryz.prog 118 #[.int .i64 m, v, u] w fun e w' => ∃ v', e = .returned v' ∧ OwS w' w.heap.size v' (tri n (fun i j => (atT s i j - atT t i j) % m)) ∧ Below w.heap.size w w' := by
 have e1 : IntKind.i64.wrap (m - 1) = m - 1 := IntWalk.i64_in _ Oo
 go_enter Tryz.func118, Tryz.ntmps118
 go_wp2_with fail
 refine (qGk m (m - 1) v t w hv hm Oo Oo Oo (by rw [ht.1]; omega) ht.2).mono ?_
 rintro e w1 ⟨v1, rfl, how, hb1⟩
 have hb1s := hb1.size
 have hl1 := ht.1
 have hl2 := hs.1
 have hu1 := hu.below hb1
 go_wp2_with fail
 refine (qGh m u v1 s (qAP m t.length (m - 1) t) w1 hu1 how.rd hm Oo Oo (by unfold qAP; rw [qA9]; omega) hs.2 (fun i hi => ?_)).mono ?_
 ·have h := (show PlaT m t.length (qAP m t.length (m - 1) t) from qB2 fun _ _ _ => qA6 Oo); have h2 := h.2 i hi; exact h2
 rintro e w2 ⟨v2, rfl, how2, hb2⟩
 have HE := dd (show qAr m s.length s (qAP m t.length (m - 1) t) = tri n (fun i j => (atT s i j - atT t i j) % m) by
  rw [hl1, hl2]; refine qAE fun i j h => ?_
  unfold qAP; rw [qAi h]; refine (qCU (rfl : atT s i j % m = _) (qAW _ _)).trans ?_; rw [Int.sub_mul, Int.one_mul, show atT s i j + (m * atT t i j - atT t i j) = (atT s i j - atT t i j) + m * atT t i j by omega, Int.add_mul_emod_self_left])
 rw [HE.out] at how2
 go_wp2
 go_ret
 exact ⟨_, rfl, how2.mono hb1s, hb1.trans (hb2.mono hb1s)⟩
end
end Go.Proofs.YtfpphfjlpgefaaaGreat
