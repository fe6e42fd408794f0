/- Lemmas. -/
import Derived.Test.YtfpphfjlpgefaaaGreatQLUnd
import Derived.Test.YtfpphfjlpgefaaaGreatQLG13
import Derived.Test.YtfpphfjlpgefaaaGreatQLM5
import Derived.Test.YtfpphfjlpgefaaaGreatQLM7
set_option maxHeartbeats 1000000
set_option maxRecDepth 100000
set_option linter.unusedSimpArgs false
set_option linter.unusedVariables false
namespace Go.Proofs.YtfpphfjlpgefaaaGreat
open Go.RowKit
open Rg

structure IsC (m : Int) (n : Nat) (xs : List Int) : Prop where
 s : serB m xs = true
 len : xs.length = n
 z : at0 xs 0 = 0
theorem ser_mk {m : Int} {xs : List Int} (hm : 2 ≤ m ∧ m ≤ 10000) (hn : 2 ≤ xs.length ∧ xs.length ≤ 11) (hx : ∀ x ∈ xs, 0 ≤ x ∧ x < m) : serB m xs = true := by
 have e : numsB m xs = true := by
  simp only [numsB, List.all_eq_true]
  intro x h
  have := hx x h
  exact inB_mk (by omega) (by omega)
 simp only [serB, Bool.and_eq_true]
 exact ⟨⟨inB_mk (by omega) (by omega), inB_mk (by omega) (by omega)⟩, e⟩
theorem IsC.x {m : Int} {n : Nat} {xs : List Int} (h : IsC m n xs) : ∀ x ∈ xs, 0 ≤ x ∧ x < m := ser_x h.s
theorem IsC.lo {m : Int} {n : Nat} {xs : List Int} (h : IsC m n xs) : Rg.lo m 1 (at0 xs) := lo_at0 h.z
structure LawO (m : Int) (t : List (List Int)) : Prop where
 hm : 2 ≤ m ∧ m ≤ 10000
 hn : 2 ≤ t.length ∧ t.length ≤ 11
 P : PlaT m t.length t
 L : Lw m t.length (atT t)
theorem lawO {m : Int} {t : List (List Int)} (h : lawB m t = true) : LawO m t := by
 have hn := pla_n (lawB_t h).1
 have hm := pla_m (lawB_t h).1
 have P : PlaT m t.length t := ⟨rfl, pla_row (lawB_t h).1⟩
 exact ⟨hm, hn, P, lw_of hn.1 P (lawB_t h).2⟩
theorem curC_ok {m : Int} {t : List (List Int)} (h : lawB m t = true) {l : List (Int × List Int)} (hl : ∀ p ∈ l, p.1 = m ∧ IsC m t.length p.2) : curC m t l = 0 := by
 unfold curC
 rw [if_pos h, if_pos, if_pos]
 ·rw [List.all_eq_true]
  intro p hp
  obtain ⟨h1, h2⟩ := hl p hp
  simp [curOfB, fitB, h1, h2.len, h2.z]
 ·rw [List.all_eq_true]
  intro p hp
  obtain ⟨h1, h2⟩ := hl p hp
  rw [h1]; exact h2.s
theorem sumU_0 {m m1 m2 : Int} {t : List (List Int)} {xs ys : List Int} (h : (sumUR m t m1 xs m2 ys).code = 0) : lawB m t = true ∧ m1 = m ∧ m2 = m ∧ IsC m t.length xs ∧ IsC m t.length ys := by
 have hc : curC m t [(m1, xs), (m2, ys)] = 0 := by
  unfold sumUR at h
  split at h
  ·assumption
  ·exact h
 obtain ⟨h1, h2⟩ := curC_0 hc
 obtain ⟨a1, a2, a3, a4⟩ := h2 (m1, xs) (by simp)
 obtain ⟨b1, b2, b3, b4⟩ := h2 (m2, ys) (by simp)
 simp only at a1 a2 a3 a4 b1 b2 b3 b4
 subst a2 b2
 exact ⟨h1, rfl, rfl, ⟨a1, a3, a4⟩, ⟨b1, b3, b4⟩⟩
section law
variable {m : Int} {t : List (List Int)}
theorem put_isC (h : lawB m t = true) {a b : List Int} (ha : IsC m t.length a) (hb : IsC m t.length b) : IsC m t.length (putL m t.length t a b) := by
 have O := lawO h
 have hr : ∀ x ∈ putL m t.length t a b, 0 ≤ x ∧ x < m := putTo_range (by have := O.hm; omega)
 have hl : (putL m t.length t a b).length = t.length := putTo_len _ _ _ _ _ _ _
 refine ⟨ser_mk O.hm (by rw [hl]; exact O.hn) hr, hl, ?_⟩
 have e := eqv1.1 (L_put O.P a b) 0 (by have := O.hn; omega)
 have hlo : Rg.lo m 1 (ev2 t.length (atT t) (at0 a) (at0 b)) := ev2_lo _ O.L.zer (nl _) ha.lo hb.lo
 have h0 : ev2 t.length (atT t) (at0 a) (at0 b) 0 % m = 0 := by
  rcases hlo 0 with h | h
  ·omega
  ·exact Int.emod_eq_zero_of_dvd h
 have hx := hr (at0 (putL m t.length t a b) 0) (by rw [at0_get (by rw [hl]; have := O.hn; omega)]; exact List.getElem_mem _)
 rw [h0, Int.emod_eq_of_lt hx.1 hx.2] at e
 exact e
theorem sumU_ok (h : lawB m t = true) {a b : List Int} (ha : IsC m t.length a) (hb : IsC m t.length b) : sumUR m t m a m b = ⟨m, putL m t.length t a b, 0⟩ := by
 unfold sumUR
 rw [if_pos (curC_ok h (fun p hp => by
  rcases List.mem_cons.1 hp with rfl | hp
  ·exact ⟨rfl, ha⟩
  ·rw [List.mem_singleton.1 hp]; exact ⟨rfl, hb⟩))]
theorem sum_comm (h : lawB m t = true) {a b : List Int} (ha : IsC m t.length a) (hb : IsC m t.length b) : putL m t.length t b a = putL m t.length t a b := by
 have O := lawO h
 have p1 := put_isC h hb ha
 have p2 := put_isC h ha hb
 exact list_eq p1.len p2.len p1.x p2.x (eqv_trans (L_put O.P b a) (eqv_trans (ev2_comm O.L hb.lo ha.lo) (eqv_symm (L_put O.P a b))))
theorem sum_assoc (h : lawB m t = true) {a b c : List Int} (ha : IsC m t.length a) (hb : IsC m t.length b) (hc : IsC m t.length c) : putL m t.length t (putL m t.length t a b) c = putL m t.length t a (putL m t.length t b c) := by
 have O := lawO h
 have ab := put_isC h ha hb
 have bc := put_isC h hb hc
 have p1 := put_isC h ab hc
 have p2 := put_isC h ha bc
 have e1 := eqv_trans (L_put O.P (putL m t.length t a b) c) (ev2_eqv ab.lo hc.lo (nl _) (fun _ _ _ => rfl) (L_put O.P a b) eqv_rfl)
 have e2 := eqv_trans (L_put O.P a (putL m t.length t b c)) (ev2_eqv ha.lo bc.lo (nl _) (fun _ _ _ => rfl) eqv_rfl (L_put O.P b c))
 exact list_eq p1.len p2.len p1.x p2.x (eqv_trans e1 (eqv_trans (ev2_assoc O.L ha.lo hb.lo hc.lo) (eqv_symm e2)))
theorem opp_isC (h : lawB m t = true) {b : List Int} (hb : IsC m t.length b) : IsC m t.length (horn m t.length b (invL m t.length t)) := by
 have O := lawO h
 have hn := O.hn
 have hm := O.hm
 have hl : (horn m t.length b (invL m t.length t)).length = t.length := horn_len _ _ _ _
 have hr : ∀ x ∈ horn m t.length b (invL m t.length t), 0 ≤ x ∧ x < m := horn_range (by omega)
 refine ⟨ser_mk O.hm (by rw [hl]; exact O.hn) hr, hl, ?_⟩
 have e := eqv1.1 (L_horn (m := m) b (invL m t.length t) (by rw [invL_len]; exact Nat.le_refl _)) 0 (by omega)
 have hlo : Rg.lo m 1 (ev1 t.length (at0 (invL m t.length t)) (at0 b)) := (hm1 (n := t.length) hb.lo).lo 1 _ (by omega) (lo_at0 (invTo_0 _ _ _ _))
 have h0 : ev1 t.length (at0 (invL m t.length t)) (at0 b) 0 % m = 0 := by
  rcases hlo 0 with h | h
  ·omega
  ·exact Int.emod_eq_zero_of_dvd h
 have hx := hr (at0 (horn m t.length b (invL m t.length t)) 0) (by rw [at0_get (by rw [hl]; omega)]; exact List.getElem_mem _)
 rw [h0, Int.emod_eq_of_lt hx.1 hx.2] at e
 exact e
theorem diff_back (h : lawB m t = true) {a b : List Int} (ha : IsC m t.length a) (hb : IsC m t.length b) : putL m t.length t (putL m t.length t a (horn m t.length b (invL m t.length t))) b = a := by
 have O := lawO h
 have ho := opp_isC h hb
 have p1 := put_isC h ha ho
 have p2 := put_isC h p1 hb
 have eo := L_horn (m := m) (n := t.length) b (invL m t.length t) (by rw [invL_len]; exact Nat.le_refl _)
 refine list_eq p2.len ha.len p2.x ha.x ?_
 have lo' : Rg.lo m 1 (at0 (horn m t.length b (invL m t.length t))) := ho.lo
 have e1 := eqv_trans (L_put O.P (putL m t.length t a (horn m t.length b (invL m t.length t))) b) (ev2_eqv p1.lo hb.lo (nl _) (fun _ _ _ => rfl) (L_put O.P a _) eqv_rfl)
 have e2 := ev2_assoc O.L ha.lo lo' hb.lo
 have e3 : eqv m t.length (ev2 t.length (atT t) (at0 (horn m t.length b (invL m t.length t))) (at0 b)) zz :=
  eqv_trans (ev2_comm O.L lo' hb.lo) (eqv_trans (ev2_eqv hb.lo lo' (nl _) (fun _ _ _ => rfl) eqv_rfl eo) (ev2_opp O.L O.P hb.lo))
 have l3 : Rg.lo m 1 (ev2 t.length (atT t) (at0 (horn m t.length b (invL m t.length t))) (at0 b)) := ev2_lo _ O.L.zer (nl _) lo' hb.lo
 exact eqv_trans e1 (eqv_trans e2 (eqv_trans (ev2_eqv ha.lo l3 (nl _) (fun _ _ _ => rfl) eqv_rfl e3) (ev2_zz O.L (at0 a))))
end law
end Go.Proofs.YtfpphfjlpgefaaaGreat
namespace Go.Proofs.YtfpphfjlpgefaaaGreat
open Go.RowKit

def TabP (m : Int) (N lo hi : Nat) (w : World) (v : Value) : Prop := ∃ t, OwSR lo hi w v t ∧ PlaT m N t
def TEnd (m : Int) (N : Nat) (w w' : World) (e : Ending) : Prop := ∃ v t, e = .returned v ∧ OwS w' w.heap.size v t ∧ PlaT m N t ∧ Below w.heap.size w w'
def RowP (m : Int) (n lo : Nat) (w : World) (v : Value) : Prop := ∃ xs : List Int, OwI w lo v xs ∧ xs.length = n ∧ ∀ x ∈ xs, 0 ≤ x ∧ x < m
def REnd (m : Int) (n : Nat) (w w' : World) (e : Ending) : Prop := ∃ v, e = .returned v ∧ RowP m n w.heap.size w' v ∧ Below w.heap.size w w'

theorem PlaT.put {m : Int} {N i j : Nat} {t : List (List Int)} (ht : PlaT m N t) {row : List Int} (hi : t[i]? = some row) {x : Int} (h0 : 0 ≤ x) (h1 : x < m) : PlaT m N (t.set i (row.set j x)) := by
 refine ⟨by rw [List.length_set]; exact ht.1, fun k hk => ?_⟩
 rw [List.length_set] at hk
 have hi' := List.getElem?_eq_some_iff.1 hi
 obtain ⟨h2, h3⟩ := ht.2 k hk
 by_cases e : i = k
 ·subst e
  rw [List.getElem_set_self]
  rw [hi'.2] at h2 h3
  refine ⟨by rw [List.length_set, List.length_set]; exact h2, fun y hy => ?_⟩
  rcases List.mem_or_eq_of_mem_set hy with h | rfl
  ·exact h3 y h
  ·exact ⟨h0, h1⟩
 ·rw [List.getElem_set_ne e]
  exact ⟨by rw [List.length_set]; exact h2, h3⟩
theorem TabP.stay {m : Int} {N lo hi : Nat} {w w' : World} {v : Value} (h : TabP m N lo hi w v) (hk : ∀ k, lo ≤ k → k < hi → w'.heap[k]? = w.heap[k]?) : TabP m N lo hi w' v := by
 obtain ⟨t, h1, h2⟩ := h; exact ⟨t, h1.stay hk, h2⟩
theorem TabP.at {m : Int} {N lo hi g c : Nat} {w : World} (h : TabP m N lo hi w (.slice (some ⟨g, 0, none⟩) N c)) {i j : Nat} (q : Nat) (hq : i + q = N) (hij : j < q) :
  ∃ gr cr x, lo ≤ gr ∧ gr < hi ∧ gr ≠ g ∧ w.cell? ⟨g, i, none⟩ = some (.slice (some ⟨gr, 0, none⟩) q cr) ∧ w.cell? ⟨gr, j, none⟩ = some (.int .i64 x) ∧ w.frozen? ⟨gr, j, none⟩ = false ∧ (0 ≤ x ∧ x < m) ∧
    (∀ y, 0 ≤ y → y < m → TabP m N lo hi (w.setCell ⟨gr, j, none⟩ (.int .i64 y)) (.slice (some ⟨g, 0, none⟩) N c)) := by
 obtain ⟨t, h1, h2⟩ := h
 have hl := h2.1
 have hi' : i < t.length := by omega
 have hrow : t[i]? = some t[i] := by simp [hi']
 obtain ⟨o, cr, hc, how, hbl, hset⟩ := h1.at hrow
 obtain ⟨hr1, hr2⟩ := h2.2 i hi'
 rw [show t[i].length = q by omega] at hc how hbl hset
 obtain ⟨gr, rfl, -, -⟩ := how.row (by omega)
 obtain ⟨b1, b2, b3⟩ := hbl gr rfl
 have hj : j < t[i].length := by omega
 refine ⟨gr, cr, t[i][j], b1, b2, b3, hc, how.cell (by simp [hj]), how.fz j, hr2 _ (List.getElem_mem _), fun y y0 y1 => ⟨_, hset _ _ (by rw [List.length_set]; omega) (grown_put w gr j (.int .i64 y)) (how.put j y), h2.put hrow y0 y1⟩⟩
theorem TabP.rows {m : Int} {N lo hi : Nat} {w : World} {v : Value} (h : TabP m N lo hi w v) (h1 : 1 ≤ N) : ∃ g c, v = .slice (some ⟨g, 0, none⟩) N c ∧ lo ≤ g ∧ g < w.heap.size := by
 obtain ⟨t, h2, h3⟩ := h
 have how := h2.ow
 obtain ⟨o, c, rfl⟩ := how.shapeN (n := N) h3.1
 obtain ⟨g, rfl, hg, hg'⟩ := how.row h1
 exact ⟨g, c, rfl, hg, hg'⟩
theorem RowP.stay {m : Int} {n lo hi : Nat} {w w' : World} {v : Value} (h : RowP m n lo w v) (hh : hi = w.heap.size) (hk : ∀ k, lo ≤ k → k < hi → w'.heap[k]? = w.heap[k]?) : RowP m n lo w' v := by
 subst hh
 obtain ⟨xs, h1, h2⟩ := h
 exact ⟨xs, h1.stay (fun b hb => (h1.lt b hb).2) hk, h2⟩
theorem RowP.at {m : Int} {n lo g c : Nat} {w : World} (h : RowP m n lo w (.slice (some ⟨g, 0, none⟩) n c)) {j : Nat} (hj : j < n) :
  ∃ x, w.cell? ⟨g, j, none⟩ = some (.int .i64 x) ∧ w.frozen? ⟨g, j, none⟩ = false ∧ (0 ≤ x ∧ x < m) ∧
    (∀ y, 0 ≤ y → y < m → RowP m n lo (w.setCell ⟨g, j, none⟩ (.int .i64 y)) (.slice (some ⟨g, 0, none⟩) n c)) := by
 obtain ⟨xs, h1, h2, h3⟩ := h
 have hj' : j < xs.length := by omega
 refine ⟨xs[j], h1.cell (by simp [hj']), h1.fz j, h3 _ (List.getElem_mem _), fun y y0 y1 => ⟨_, h1.put j y, by rw [List.length_set]; exact h2, fun x hx => ?_⟩⟩
 rcases List.mem_or_eq_of_mem_set hx with h | rfl
 ·exact h3 x h
 ·exact ⟨y0, y1⟩
theorem RowP.rows {m : Int} {n lo : Nat} {w : World} {v : Value} (h : RowP m n lo w v) (h1 : 1 ≤ n) : ∃ g c, v = .slice (some ⟨g, 0, none⟩) n c ∧ lo ≤ g ∧ g < w.heap.size := by
 obtain ⟨xs, h2, h3, -⟩ := h
 obtain ⟨o, c, rfl⟩ := h2.shapeN (n := n) h3
 obtain ⟨g, rfl, hg, hg'⟩ := h2.row h1
 exact ⟨g, c, rfl, hg, hg'⟩

theorem l08Multiplicative_e (m : Int) (D : Nat) (c : Int) (w : World) (hD : 1 ≤ D) (hD' : D ≤ 100) (hm : 2 ≤ m) (hc0 : 0 ≤ c) (hc1 : c < m) :
  Calls Tryz.prog 195 #[.int .i64 m, .int .i64 D, .int .i64 c] w fun e w' => TEnd m (D + 1) w w' e := by
 go_enter Tryz.func195, Tryz.ntmps195
 go_wp2_with fail
 refine (l03Zero_c _ (D + 1) _ (by omega) (by omega)).mono ?_
 rintro e w1 ⟨v1, rfl, hO, hb⟩
 have hT : TabP m (D + 1) w.heap.size w1.heap.size w1 v1 := ⟨_, hO.toR, zeroT_ok (by omega) _⟩
 clear hO
 obtain ⟨g, c1, rfl, hg1, hg2⟩ := hT.rows (by omega)
 obtain ⟨r1, cr1, x1, l1, l1', n1, a1, b1, f1, -, s1⟩ := hT.at (i := 1) (j := 0) D (by omega) (by omega)
 have hT1 := s1 1 (by omega) (by omega)
 obtain ⟨r2, cr2, x2, l2, l2', n2, a2, b2, f2, -, s2⟩ := hT1.at (i := 0) (j := 1) (D + 1) (by omega) (by omega)
 have hT2 := s2 1 (by omega) (by omega)
 have B1 := below_put (below_put hb l1 (.int .i64 1) (k := 0)) l2 (.int .i64 1) (k := 1)
 have i1 : (1 : Int) < ((D + 1 : Nat) : Int) := by omega
 have i2 : (0 : Int) < ((D + 1 : Nat) : Int) := by omega
 have i3 : (0 : Int) < (D : Int) := by omega
 have i1' : (1 : Int) < (D : Int) + 1 := by omega
 have i2' : (0 : Int) < (D : Int) + 1 := by omega
 clear hT hT1 s1 s2 hb
 by_cases h1 : 1 < D
 ·obtain ⟨r3, cr3, x3, l3, l3', n3, a3, b3, f3, -, s3⟩ := hT2.at (i := 1) (j := 1) D (by omega) (by omega)
  obtain ⟨t, h1', h2'⟩ := s3 c hc0 hc1
  have B2 := below_put B1 l3 (.int .i64 c) (k := 1)
  have i4 : (1 : Int) < (D : Int) := by omega
  clear hT2 s3
  go_wp2
  go_ret
  exact ⟨_, t, rfl, h1'.ow, h2', B2⟩
 ·obtain ⟨t, h1', h2'⟩ := hT2
  have i4 : ¬ (1 : Int) < (D : Int) := by omega
  go_wp2
  go_ret
  exact ⟨_, t, rfl, h1'.ow, h2', B1⟩
end Go.Proofs.YtfpphfjlpgefaaaGreat
namespace Go.Proofs.YtfpphfjlpgefaaaGreat
open Go.RowKit

def RDr (m : Int) (k : Nat) (w w' : World) (B n b : Nat) (e : Ending) : Prop := ∃ v xs, e = .returned v ∧ OwI w' w.heap.size v xs ∧ xs.length = k ∧ (∀ x ∈ xs, 0 ≤ x ∧ x < m) ∧ DW B n b w w'

theorem l08DrawList_d (B n b : Nat) (m : Int) (w : World) (hs : Src w B n b) (hm : 2 ≤ m) :
  Calls Tryz.prog 199 #[.pointer (some ⟨b, 0, none⟩), .int .i64 m] w fun e w' => RDr m 5 w w' B n b e := by
 have hlt := hs.lt
 go_enter Tryz.func199, Tryz.ntmps199
 go_wp2_with fail
 have hO0 : OwI (w.alloc (.cells #[] 2)) w.heap.size (.slice (some ⟨w.heap.size, 0, none⟩) 0 0) [] := OwI.lit w [] (Nat.zero_le _)
 have hd0 := (DW.refl hs).alloc (.cells #[] 2)
 generalize w.alloc (.cells #[] 2) = w0 at hO0 hd0 ⊢
 go_loopw [5, 6] (fun v i wr => ∃ (xs : List Int) (o : Option Addr) (c : Nat), xs.length ≤ 5 ∧ i = .int .i64 xs.length ∧ v = .slice o xs.length c ∧ OwI wr w.heap.size (.slice o xs.length c) xs ∧ Hid (∀ x ∈ xs, 0 ≤ x ∧ x < m) ∧ DW B n b w wr) (fun _ i _ => 5 - (intOf i).toNat)
 case atStart => exact ⟨[], _, 0, by simp, by go_num, rfl, hO0, Lib.hid (by simp), hd0⟩
 case round =>
  clear hO0 hd0
  obtain ⟨xs, o, c, hl, rfl, rfl, hO, HX, hD⟩ := hrel
  by_cases hj0 : xs.length < 5
  ·have i1 : (xs.length : Int) < 5 := by omega
   go_wp2_with fail
   refine (next_d B n b m _ hD.src).mono ?_
   rintro e w1 ⟨y, rfl, y0, y1, y2, hd1, hz1⟩
   have hO1 := hO.dw hd1 hlt
   have hD1 := hD.trans hd1
   have y1 := y1 (by omega)
   clear y2 hd1 hz1
   go_wp2_with fail
   refine (pick_d B n b _ _ [0, 0, 1, y] _ w1 hD1.src (by omega) rfl rfl (by simp) (by simp)).mono ?_
   rintro e w3 ⟨t, rfl, t0, hd3, hz3⟩
   have ht : 0 ≤ t ∧ t < m := by simp at t0; omega
   have hO3 := hO1.dw hd3 hlt
   have hD3 := hD1.trans hd3
   clear t0 hd3 hz3
   have hOl := hO3.lt
   have hD4 := hD3.alloc (.cells #[.int .i64 t] 2)
   have hz4 := hD3.size
   go_wp2_with (at_builtin; go_loud (refine apR _ rfl _ _ rfl w.heap.size (.slice o xs.length c) xs rfl (hO3.alloc _) ⟨w3.heap.size, 0, none⟩ 1 1 [t] rfl (OwI.lit w3 [t] (by simp [maxLen])).rd (by simp; omega) (by simp; omega) ?_; intro o4 c4 w4 hO4 hg4 hb4; have hD4 := hD4.grown hg4 (fun k hk => (hOl _ hk).1); clear hg4 hb4 hOl))
   have HX2 := Lib.hid (show ∀ x ∈ xs ++ [t], 0 ≤ x ∧ x < m from fun x hx => by
    rcases List.mem_append.1 hx with h | h
    ·exact HX.out x h
    ·rw [List.mem_singleton.1 h]; exact ht)
   exact ⟨⟨xs ++ [t], o4, c4, by simp; omega, by simp, by simp, hO4, HX2, hD4⟩, by simp [intOf]; omega⟩
  ·have hl5 : xs.length = 5 := by omega
   have i1 : ¬ (xs.length : Int) < 5 := by omega
   have HL := Lib.hid hl5
   clear hl5
   go_wp2
   go_ret
   exact ⟨_, xs, rfl, hO, HL.out, HX.out, hD⟩

theorem l04DrawCurve_d (B n b : Nat) (m : Int) (D : Nat) (w : World) (hs : Src w B n b) (hm : 2 ≤ m) (h1 : 1 ≤ D) (hD1 : D ≤ 100) :
  Calls Tryz.prog 162 #[.pointer (some ⟨b, 0, none⟩), .int .i64 m, .int .i64 D] w fun e w' => RDr m (D + 1) w w' B n b e := by
 have hlt := hs.lt
 go_enter Tryz.func162, Tryz.ntmps162
 go_wp2_with fail
 have hO0 : OwI (w.alloc (.cells #[.int .i64 0, .int .i64 1] 2)) w.heap.size (.slice (some ⟨w.heap.size, 0, none⟩) 2 2) [0, 1] := OwI.lit w [0, 1] (by decide)
 have hd0 := (DW.refl hs).alloc (.cells #[.int .i64 0, .int .i64 1] 2)
 generalize w.alloc (.cells #[.int .i64 0, .int .i64 1] 2) = w0 at hO0 hd0 ⊢
 go_loopw [7, 8] (fun v i wr => ∃ (xs : List Int) (o : Option Addr) (c : Nat), (2 ≤ xs.length ∧ xs.length ≤ D + 1) ∧ i = .int .i64 xs.length ∧ v = .slice o xs.length c ∧ OwI wr w.heap.size (.slice o xs.length c) xs ∧ Hid (∀ x ∈ xs, 0 ≤ x ∧ x < m) ∧ DW B n b w wr) (fun _ i _ => D + 1 - (intOf i).toNat)
 case atStart => exact ⟨[0, 1], _, 2, by simp; omega, by simp, rfl, hO0, Lib.hid (by simp; omega), hd0⟩
 case round =>
  clear hO0 hd0
  obtain ⟨xs, o, c, hl, rfl, rfl, hO, HX, hD⟩ := hrel
  by_cases hj0 : xs.length ≤ D
  ·have i1 : (xs.length : Int) ≤ (D : Int) := by omega
   go_wp2_with fail
   refine (next_d B n b m _ hD.src).mono ?_
   rintro e w1 ⟨y, rfl, y0, y1, y2, hd1, hz1⟩
   have hO1 := hO.dw hd1 hlt
   have hD1 := hD.trans hd1
   have y1 := y1 (by omega)
   clear y2 hd1 hz1
   go_wp2_with fail
   refine (next_d B n b m w1 hD1.src).mono ?_
   rintro e w2 ⟨z, rfl, z0, z1, z2, hd2, hz2⟩
   have hO2 := hO1.dw hd2 hlt
   have hD2 := hD1.trans hd2
   have z1 := z1 (by omega)
   clear z2 hd2 hz2
   go_wp2_with fail
   refine (pick_d B n b _ _ [0, 0, y, z] _ w2 hD2.src (by omega) rfl rfl (by simp) (by simp)).mono ?_
   rintro e w3 ⟨t, rfl, t0, hd3, hz3⟩
   have ht : 0 ≤ t ∧ t < m := by simp at t0; omega
   have hO3 := hO2.dw hd3 hlt
   have hD3 := hD2.trans hd3
   clear t0 hd3 hz3
   have hOl := hO3.lt
   have hD4 := hD3.alloc (.cells #[.int .i64 t] 2)
   have hz4 := hD3.size
   go_wp2_with (at_builtin; go_loud (refine apR _ rfl _ _ rfl w.heap.size (.slice o xs.length c) xs rfl (hO3.alloc _) ⟨w3.heap.size, 0, none⟩ 1 1 [t] rfl (OwI.lit w3 [t] (by simp [maxLen])).rd (by simp; omega) (by simp; omega) ?_; intro o4 c4 w4 hO4 hg4 hb4; have hD4 := hD4.grown hg4 (fun k hk => (hOl _ hk).1); clear hg4 hb4 hOl))
   have HX2 := Lib.hid (show ∀ x ∈ xs ++ [t], 0 ≤ x ∧ x < m from fun x hx => by
    rcases List.mem_append.1 hx with h | h
    ·exact HX.out x h
    ·rw [List.mem_singleton.1 h]; exact ht)
   exact ⟨⟨xs ++ [t], o4, c4, by simp; omega, by simp, by simp, hO4, HX2, hD4⟩, by simp [intOf]; omega⟩
  ·have hl5 : xs.length = D + 1 := by omega
   have i1 : ¬ (xs.length : Int) ≤ (D : Int) := by omega
   have HL := Lib.hid hl5
   clear hl5
   go_wp2
   go_ret
   exact ⟨_, xs, rfl, hO, HL.out, HX.out, hD⟩

theorem l04DrawModulus_d (B n b : Nat) (w : World) (hs : Src w B n b) :
  Calls Tryz.prog 151 #[.pointer (some ⟨b, 0, none⟩)] w fun e w' => ∃ r, e = .returned (.int .i64 r) ∧ (2 ≤ r ∧ r ≤ 10000) ∧ DW B n b w w' := by
 go_enter Tryz.func151, Tryz.ntmps151
 go_wp2_with fail
 refine (next_d B n b _ w hs).mono ?_
 rintro e w1 ⟨r, rfl, r0, r1, r2, hd1, hz1⟩
 have r1 := r1 (by omega)
 go_wp2_with fail
 refine (pick_d B n b _ _ [2, 3, 5, 7, 4, 9, 8, 6, 11, 101, 9973, 2 + r] _ w1 hd1.src (by omega) rfl rfl (by simp) (by simp)).mono ?_
 rintro e w3 ⟨t, rfl, ht, hd3, hz3⟩
 have ht2 : 2 ≤ t ∧ t ≤ 10000 := by simp at ht; omega
 clear ht
 go_wp2
 go_ret
 exact ⟨_, rfl, ht2, hd1.trans hd3⟩
end Go.Proofs.YtfpphfjlpgefaaaGreat
namespace Go.Proofs.YtfpphfjlpgefaaaGreat
open Go.RowKit

theorem one_tmod {m : Int} (hm : 2 ≤ m) : (1 : Int).tmod m = 1 := by
 rw [Int.tmod_eq_emod_of_nonneg (by omega)]; exact Int.emod_eq_of_lt (by omega) (by omega)
theorem tmod_in {m x : Int} (hm : 2 ≤ m) (hx : 0 ≤ x) : 0 ≤ x.tmod m ∧ x.tmod m < m := by
 rw [Int.tmod_eq_emod_of_nonneg hx]; exact ⟨Int.emod_nonneg _ (by omega), Int.emod_lt_of_pos _ (by omega)⟩

theorem l08Tangent_e (m : Int) (D : Nat) (c : Int) (w : World) (hD : 1 ≤ D) (hD' : D ≤ 100) (hm : 2 ≤ m) (hm' : m ≤ 10000) (hc0 : 0 ≤ c) (hc1 : c < m) :
  Calls Tryz.prog 196 #[.int .i64 m, .int .i64 D, .int .i64 c] w fun e w' => TEnd m (D + 1) w w' e := by
 have m0 : (m == 0) = false := by simp; omega
 have m1 : ¬ m = 0 := by omega
 have h1m := one_tmod hm
 go_enter Tryz.func196, Tryz.ntmps196
 go_wp2_with fail
 refine (l03Zero_c _ (D + 1) _ (by omega) (by omega)).mono ?_
 rintro e w1 ⟨v1, rfl, hO, hb⟩
 have hT : TabP m (D + 1) w.heap.size w1.heap.size w1 v1 := ⟨_, hO.toR, zeroT_ok (by omega) _⟩
 clear hO
 obtain ⟨g, c1, rfl, hg1, hg2⟩ := hT.rows (by omega)
 go_wp2_with fail
 go_loopw [8, 9] (fun p i wr => ∃ (k : Nat) (x : Int), 2 * k ≤ D + 1 ∧ i = .int .i64 k ∧ p = .int .i64 x ∧ (0 ≤ x ∧ x < m) ∧ TabP m (D + 1) w.heap.size w1.heap.size wr (.slice (some ⟨g, 0, none⟩) (D + 1) c1) ∧ Below w.heap.size w wr) (fun _ i _ => D + 2 - 2 * (intOf i).toNat)
 case atStart => exact ⟨0, 1, by omega, rfl, rfl, by omega, hT, hb⟩
 case round =>
  obtain ⟨k, x, hk, rfl, rfl, ⟨x0, x1⟩, hT, hB⟩ := hrel
  by_cases hlt : 2 * k + 1 ≤ D
  ·obtain ⟨r1, cr1, y1, l1, l1', n1, a1, b1, f1, -, s1⟩ := hT.at (i := k + 1) (j := k) (D - k) (by omega) (by omega)
   have hT1 := s1 x x0 x1
   obtain ⟨r2, cr2, y2, l2, l2', n2, a2, b2, f2, -, s2⟩ := hT1.at (i := k) (j := k + 1) (D + 1 - k) (by omega) (by omega)
   have hT2 := s2 x x0 x1
   have B1 := below_put (below_put hB l1 (.int .i64 x) (k := k)) l2 (.int .i64 x) (k := k + 1)
   clear hT hT1 s1 s2
   have i0 : 2 * (k : Int) + 1 ≤ (D : Int) := by omega
   have i1 : (k : Int) + 1 < ((D + 1 : Nat) : Int) := by omega
   have i1' : (k : Int) + 1 < (D : Int) + 1 := by omega
   have i2 : (k : Int) < ((D - k : Nat) : Int) := by omega
   have i3 : (k : Int) < ((D + 1 : Nat) : Int) := by omega
   have i3' : (k : Int) < (D : Int) + 1 := by omega
   have i4 : (k : Int) + 1 < ((D + 1 - k : Nat) : Int) := by omega
   have i5 : (0 : Int) ≤ (k : Int) + 1 := by omega
   have i6 : (0 : Int) ≤ (k : Int) := by omega
   have i7 : ((k : Int) + 1).toNat = k + 1 := by omega
   have e1 : IntKind.i64.wrap (2 * (k : Int)) = 2 * (k : Int) := IntWalk.i64_in _ (by omega)
   have e2 : IntKind.i64.wrap (2 * (k : Int) + 1) = 2 * (k : Int) + 1 := IntWalk.i64_in _ (by omega)
   have e3 : IntKind.i64.wrap (m - c) = m - c := IntWalk.i64_in _ (by omega)
   have hp0 : 0 ≤ x * (m - c) := Int.mul_nonneg x0 (by omega)
   have hp1 : x * (m - c) ≤ 10000 * 10000 := Int.mul_le_mul (by omega) (by omega) (by omega) (by omega)
   have e4 : IntKind.i64.wrap (x * (m - c)) = x * (m - c) := IntWalk.i64_in _ (by omega)
   obtain ⟨q, hq⟩ : ∃ q, (x * (m - c)).tmod m = q := ⟨_, rfl⟩
   have hq2 := tmod_in hm hp0
   rw [hq] at hq2
   have e5 : IntKind.i64.wrap q = q := IntWalk.i64_in _ (by omega)
   clear hp0 hp1
   go_wp2
   exact ⟨⟨k + 1, q, by omega, by go_num, rfl, hq2, hT2, B1⟩, by simp [intOf]; omega⟩
  ·obtain ⟨t, h1', h2'⟩ := hT
   have i0 : ¬ 2 * (k : Int) + 1 ≤ (D : Int) := by omega
   have e1 : IntKind.i64.wrap (2 * (k : Int)) = 2 * (k : Int) := IntWalk.i64_in _ (by omega)
   have e2 : IntKind.i64.wrap (2 * (k : Int) + 1) = 2 * (k : Int) + 1 := IntWalk.i64_in _ (by omega)
   go_wp2
   go_ret
   exact ⟨_, t, rfl, h1'.ow, h2', hB⟩

theorem l08Root_e (m : Int) (D : Nat) (a e0 : Int) (w : World) (hD : 1 ≤ D) (hD' : D ≤ 100) (hm : 2 ≤ m) (hm' : m ≤ 10000) (ha0 : 0 ≤ a) (ha1 : a < m) (he0 : 0 ≤ e0) (he1 : e0 < m) :
  Calls Tryz.prog 205 #[.int .i64 m, .int .i64 D, .int .i64 a, .int .i64 e0] w fun e w' => REnd m (D + 1) w w' e := by
 have m0 : (m == 0) = false := by simp; omega
 have m1 : ¬ m = 0 := by omega
 have eD : IntKind.i64.wrap ((D : Int) + 1) = (D : Int) + 1 := IntWalk.i64_in _ (by omega)
 go_enter Tryz.func205, Tryz.ntmps205
 go_wp2_with fail
 go_cut [9, 10] from 14 to 18 (fun sh so u => ∃ (wz : World) (g : Nat), wz = u ∧ sh = .int .i64 (invM m 2) ∧ so = .slice (some ⟨g, 0, none⟩) (D + 1) (D + 1) ∧ OwI u w.heap.size (.slice (some ⟨g, 0, none⟩) (D + 1) (D + 1)) (List.replicate (D + 1) 0) ∧ Below w.heap.size w u)
 case first =>
  have hd0 : Below w.heap.size w w.drew := (Below.refl _ _).drew
  refine wp_region_K (S := fun w' => True) [] (by kernel_rfl) ?_
  have hHeld : (fun w' : World => True) w.drew := by trivial
  refine' wpAnyK_takeL (i := 0) (v := _) rfl (by kernel_rfl) (by kernel_rfl) (by kernel_rfl) (by kernel_rfl) (fun _ _ _ h => h) (Or.inl ⟨by rfl, ?yT1⟩) hHeld ?rT1
  case yT1 => (intro w' hSw; (try dsimp only at hSw); go_simp; try with_reducible rfl)
  try simp only [Act.put, sL]
  refine' wpAnyK_takeL (i := 2) (v := _) rfl (by kernel_rfl) (by kernel_rfl) (by kernel_rfl) (by kernel_rfl) (fun _ _ _ h => h) (Or.inl ⟨by rfl, ?yT2⟩) hHeld ?rT2
  case yT2 => (intro w' hSw; (try dsimp only at hSw); go_simp; try with_reducible rfl)
  try simp only [Act.put, sL]
  refine' wpAnyK_takeL (i := 3) (v := _) rfl (by kernel_rfl) (by kernel_rfl) (by kernel_rfl) (by kernel_rfl) (fun _ _ _ h => h) (Or.inl ⟨by rfl, ?yT3⟩) hHeld ?rT3
  case yT3 => (intro w' hSw; (try dsimp only at hSw); go_simp; try with_reducible rfl)
  try simp only [Act.put, sL]
  refine wpAnyK_two (i := 1) (j := 4) rfl rfl (by kernel_rfl) (fun K hK => ?_) (fun K hK => ?_)
  ·skip
   go_simp
   go_at_call 120
   refine (l01Inv_c m 2 _ hm (by omega) (by omega) (by omega)).mono ?_
   rintro e w' ⟨rfl, rfl⟩
   go_wp2_with fail
   refine hK.out _ _ (fun _ => hHeld) ?_
   clear hK K
   try simp only [Act.put, sL]
   refine' wpAnyK_takeL (i := 5) (v := _) rfl (by kernel_rfl) (by kernel_rfl) (by kernel_rfl) (by kernel_rfl) (fun _ _ _ h => h) (Or.inl ⟨by rfl, ?yT4⟩) hHeld ?rT4
   case yT4 => (intro w' hSw; (try dsimp only at hSw); go_simp; try with_reducible rfl)
   try simp only [Act.put, sL]
   refine wpAnyK_oneL (i := 4) rfl (by kernel_rfl) (fun K hK => ?_)
   refine stMk rfl _ _ rfl _ _ _ (D + 1) rfl rfl (by omega) (by omega) ?_
   intro wo hoo hbo hs0
   refine hK.out _ _ (fun _ => hHeld) ?_
   clear hK K
   try simp only [Act.put, sL]
   refine wpAnyK_oneL (i := 6) rfl (by kernel_rfl) (fun K hK => ?_)
   go_simp
   (try go_wp2_with fail)
   refine hK.out _ _ (fun _ => hHeld) ?_
   clear hK K
   try simp only [Act.put, sL]
   refine wpAnyK_done (by kernel_rfl) ?_ _
   go_wp2_with fail
   go_meet
   exact ⟨_, _, rfl, rfl, rfl, hoo, (by (repeat (first | exact bR _ _ | (refine bS ?_ _) | (refine bA ?_ _) | (refine bN ?_ _) | (refine bD ?_) | (refine bT ?_ hbo))))⟩
  ·skip
   refine stMk rfl _ _ rfl _ _ _ (D + 1) rfl rfl (by omega) (by omega) ?_
   intro wo hoo hbo hs0
   refine hK.out _ _ (fun _ => hHeld) ?_
   clear hK K
   try simp only [Act.put, sL]
   refine wpAnyK_oneL (i := 1) rfl (by kernel_rfl) (fun K hK => ?_)
   go_simp
   go_at_call 120
   refine (l01Inv_c m 2 _ hm (by omega) (by omega) (by omega)).mono ?_
   rintro e w' ⟨rfl, rfl⟩
   go_wp2_with fail
   refine hK.out _ _ (fun _ => hHeld) ?_
   clear hK K
   try simp only [Act.put, sL]
   refine' wpAnyK_takeL (i := 5) (v := _) rfl (by kernel_rfl) (by kernel_rfl) (by kernel_rfl) (by kernel_rfl) (fun _ _ _ h => h) (Or.inl ⟨by rfl, ?yT5⟩) hHeld ?rT5
   case yT5 => (intro w' hSw; (try dsimp only at hSw); go_simp; try with_reducible rfl)
   try simp only [Act.put, sL]
   refine wpAnyK_oneL (i := 6) rfl (by kernel_rfl) (fun K hK => ?_)
   go_simp
   (try go_wp2_with fail)
   refine hK.out _ _ (fun _ => hHeld) ?_
   clear hK K
   try simp only [Act.put, sL]
   refine wpAnyK_done (by kernel_rfl) ?_ _
   go_wp2_with fail
   go_meet
   exact ⟨_, _, rfl, rfl, rfl, hoo, (by (repeat (first | exact bR _ _ | (refine bS ?_ _) | (refine bA ?_ _) | (refine bN ?_ _) | (refine bD ?_) | (refine bT ?_ hbo))))⟩
 case rest =>
 obtain ⟨w1, g, rfl, rfl, rfl, ho, hb⟩ := hcut
 have hh0 := invM_range (m := m) (by omega) 2
 generalize invM m 2 = hf at hh0
 have hR : RowP m (D + 1) w.heap.size w1 (.slice (some ⟨g, 0, none⟩) (D + 1) (D + 1)) := ⟨_, ho, by simp, fun x hx => by have := List.eq_of_mem_replicate hx; omega⟩
 have hgl := (ho.lt g rfl).1
 clear ho
 obtain ⟨x0, a0, f0, -, s0⟩ := hR.at (j := 0) (by omega)
 have hR1 := s0 1 (by omega) (by omega)
 have B1 := below_put hb hgl (.int .i64 1) (k := 0)
 have i0 : (0 : Int) < ((D + 1 : Nat) : Int) := by omega
 have i0' : (0 : Int) < (D : Int) + 1 := by omega
 clear hR s0 hb
 go_wp2_with fail
 go_loopw [11] (fun i wr => ∃ (k : Nat), 1 ≤ k ∧ k ≤ D + 1 ∧ i = .int .i64 k ∧ RowP m (D + 1) w.heap.size wr (.slice (some ⟨g, 0, none⟩) (D + 1) (D + 1)) ∧ Below w.heap.size w wr) (fun i _ => D + 1 - (intOf i).toNat)
 case atStart => exact ⟨1, by omega, by omega, rfl, hR1, B1⟩
 case round =>
  clear a0 f0 hR1 B1
  obtain ⟨k, hk1, hk, rfl, hR, hB⟩ := hrel
  by_cases hlt : k ≤ D
  ·have i1 : (k : Int) ≤ (D : Int) := by omega
   go_upto_if 27 with fail
   go_cut [12] from 27 to 34 (fun s u => ∃ x : Int, s = .int .i64 x ∧ Hid (0 ≤ x ∧ x < m) ∧ u = wr)
   case first =>
    have e1 : IntKind.i64.wrap (2 * m) = 2 * m := IntWalk.i64_in _ (by omega)
    have e2 : IntKind.i64.wrap (2 * a) = 2 * a := IntWalk.i64_in _ (by omega)
    have e3 : IntKind.i64.wrap (2 * m - 2 * a) = 2 * m - 2 * a := IntWalk.i64_in _ (by omega)
    obtain ⟨q, hq⟩ : ∃ q, (2 * m - 2 * a).tmod m = q := ⟨_, rfl⟩
    have hq2 := tmod_in hm (show 0 ≤ 2 * m - 2 * a by omega)
    rw [hq] at hq2
    have e5 : IntKind.i64.wrap q = q := IntWalk.i64_in _ (by omega)
    by_cases k2 : k = 2
    ·have q2 : ((k : Int) == 2) = true := by simp; omega
     have k2' : (k : Int) = 2 := by omega
     clear k2
     go_wp2
     go_meet
     exact ⟨_, rfl, Lib.hid hq2, rfl⟩
    ·have q2 : ((k : Int) == 2) = false := by simp; omega
     have k2' : ¬ (k : Int) = 2 := by omega
     clear k2
     go_wp2
     go_meet
     exact ⟨_, rfl, Lib.hid (by omega), rfl⟩
   case rest =>
   obtain ⟨x1, rfl, HX1, hu⟩ := hcut
   rw [hu]
   clear hu
   go_upto_if 36 with fail
   go_cut [12] from 36 to 37 (fun s u => ∃ x : Int, s = .int .i64 x ∧ Hid (0 ≤ x ∧ x < m) ∧ u = wr)
   case first =>
    by_cases k4 : k = 4
    ·have q4 : ((k : Int) == 4) = true := by simp; omega
     have k4' : (k : Int) = 4 := by omega
     clear k4
     go_wp2
     go_meet
     exact ⟨_, rfl, Lib.hid ⟨he0, he1⟩, rfl⟩
    ·have q4 : ((k : Int) == 4) = false := by simp; omega
     have k4' : ¬ (k : Int) = 4 := by omega
     clear k4
     go_wp2
     go_meet
     exact ⟨_, rfl, HX1, rfl⟩
   case rest =>
   obtain ⟨x, rfl, HXr, hu⟩ := hcut
   rw [hu]
   clear hu
   go_wp2_with fail
   go_loopw [12, 13] (fun p i wi => ∃ (j : Nat) (y : Int), 1 ≤ j ∧ j ≤ k ∧ i = .int .i64 j ∧ p = .int .i64 y ∧ (0 ≤ y ∧ y < m) ∧ ∃ d, wi = wr.drewN d) (fun _ i _ => k - (intOf i).toNat)
   case atStart => exact ⟨1, x, by omega, by omega, rfl, rfl, HXr.out, 0, rfl⟩
   case round =>
    clear HXr
    obtain ⟨j, y, hj1, hj, rfl, rfl, ⟨y0, y1⟩, d, rfl⟩ := hrel
    have hcp := hR
    by_cases hjk : j < k
    ·obtain ⟨z1, c1, -, ⟨z10, z11⟩, -⟩ := hR.at (j := j) (by omega)
     obtain ⟨z2, c2, -, ⟨z20, z21⟩, -⟩ := hR.at (j := k - j) (by omega)
     have i2 : (j : Int) < (k : Int) := by omega
     have i3 : (j : Int) < ((D + 1 : Nat) : Int) := by omega
     have i3' : (j : Int) < (D : Int) + 1 := by omega
     have i4 : (k : Int) - (j : Int) < ((D + 1 : Nat) : Int) := by omega
     have i4' : (k : Int) - (j : Int) < (D : Int) + 1 := by omega
     have i5 : (0 : Int) ≤ (k : Int) - (j : Int) := by omega
     have i6 : ((k : Int) - (j : Int)).toNat = k - j := by omega
     have i7 : (0 : Int) ≤ (j : Int) := by omega
     have e1 : IntKind.i64.wrap ((k : Int) - (j : Int)) = (k : Int) - (j : Int) := IntWalk.i64_in _ (by omega)
     have e2 : IntKind.i64.wrap (m - z1) = m - z1 := IntWalk.i64_in _ (by omega)
     have hp0 : 0 ≤ (m - z1) * z2 := Int.mul_nonneg (by omega) z20
     have hp1 : (m - z1) * z2 ≤ 10000 * 10000 := Int.mul_le_mul (by omega) (by omega) (by omega) (by omega)
     have e3 : IntKind.i64.wrap ((m - z1) * z2) = (m - z1) * z2 := IntWalk.i64_in _ (by omega)
     have e4 : IntKind.i64.wrap (y + (m - z1) * z2) = y + (m - z1) * z2 := IntWalk.i64_in _ (by omega)
     obtain ⟨q, hq⟩ : ∃ q, (y + (m - z1) * z2).tmod m = q := ⟨_, rfl⟩
     have hq2 := tmod_in hm (show 0 ≤ y + (m - z1) * z2 by omega)
     rw [hq] at hq2
     have e5 : IntKind.i64.wrap q = q := IntWalk.i64_in _ (by omega)
     clear hp0 hp1
     go_wp2_with fail
     go_quiet (fail)
     go_wp2
     exact ⟨⟨j + 1, q, by omega, by omega, by go_num, rfl, hq2, _, rfl⟩, by simp [intOf]; omega⟩
    ·obtain rfl : j = k := by omega
     have i2 : ¬ (j : Int) < (j : Int) := by omega
     obtain ⟨z1, c1, f1, -, -⟩ := hR.at (j := j) (by omega)
     obtain ⟨-, -, -, -, s1⟩ := (show RowP m (D + 1) w.heap.size (wr.drewN d) (.slice (some ⟨g, 0, none⟩) (D + 1) (D + 1)) from hR.stay rfl (fun _ _ _ => rfl)).at (j := j) (by omega)
     have hp0 : 0 ≤ y * hf := Int.mul_nonneg y0 hh0.1
     have hp1 : y * hf ≤ 10000 * 10000 := Int.mul_le_mul (by omega) (by omega) (by omega) (by omega)
     have e3 : IntKind.i64.wrap (y * hf) = y * hf := IntWalk.i64_in _ (by omega)
     obtain ⟨q, hq⟩ : ∃ q, (y * hf).tmod m = q := ⟨_, rfl⟩
     have hq2 := tmod_in hm hp0
     rw [hq] at hq2
     have e5 : IntKind.i64.wrap q = q := IntWalk.i64_in _ (by omega)
     have hR1 := s1 q hq2.1 hq2.2
     have i3 : (j : Int) < ((D + 1 : Nat) : Int) := by omega
     have i3' : (j : Int) < (D : Int) + 1 := by omega
     have i7 : (0 : Int) ≤ (j : Int) := by omega
     clear hp0 hp1 s1
     go_wp2
     exact ⟨⟨j + 1, by omega, by omega, by go_num, hR1, below_put (below_drewN hB d) hgl _⟩, by simp [intOf]; omega⟩
  ·have i1 : ¬ (k : Int) ≤ (D : Int) := by omega
   go_wp2
   go_ret
   exact ⟨_, rfl, hR, hB⟩
end Go.Proofs.YtfpphfjlpgefaaaGreat
