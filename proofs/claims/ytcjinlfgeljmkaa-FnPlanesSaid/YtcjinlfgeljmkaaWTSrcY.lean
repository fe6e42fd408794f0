/- Lemmas of SrcY. -/
import Derived.Test.YtcjinlfgeljmkaaWTSrcX
import Derived.Test.YtcjinlfgeljmkaaWTG2
import Derived.Test.YtcjinlfgeljmkaaWTPlaE
set_option linter.unusedSimpArgs false
set_option linter.unusedVariables false
namespace Go.Proofs.Ytcjinlfgeljmkaa
open Go.RowKit

theorem turn_pla {m : Int} (hm : 0 < m) (t : List (List Int)) : PlaT m t.length (turnT m t) := by
  refine ⟨tri_len _ _, fun i hi => ?_⟩
  have h := tri_get (n := t.length) (f := fun i j => atT t j i % m) (i := i) (by rwa [turnT, tri_len] at hi)
  have e : (turnT m t)[i] = mk (t.length - i) (fun j => atT t j i % m) := by
    have := List.getElem?_eq_getElem hi
    rw [show (turnT m t)[i]? = _ from h] at this
    exact (Option.some.inj this).symm
  rw [e, mk_len, show (turnT m t).length = t.length from tri_len _ _]
  refine ⟨rfl, fun x hx => ?_⟩
  obtain ⟨k, _, rfl⟩ := mem_mk hx
  exact mod_lt' hm
theorem Rds.dwS {lo hi : Nat} {B n b : Nat} {w w' : World} {R : World → Prop} (h : Rds lo hi w R) (hd : DW B n b w w') (hb : b < lo) : Rds lo hi w' R :=
  ⟨Nat.le_trans h.1 hd.size, fun u hu => h.2 u (fun k h1 h2 => (hu k h1 h2).trans (hd.chg.block k (Nat.lt_of_lt_of_le h2 h.1) (.inr (by omega))))⟩
theorem Rds.weak {lo lo' hi : Nat} {w : World} {R : World → Prop} (h : Rds lo hi w R) (hl : lo' ≤ lo) : Rds lo' hi w R := ⟨h.1, fun u hu => h.2 u (fun k h1 h2 => hu k (by omega) h2)⟩
def P2Dr (w w' : World) (e : Ending) : Prop := ∃ m v xss hi q u zss hi', e = .returned (.tuple #[.agg #[.int .i64 m, v], .agg #[.int .i64 q, u]]) ∧ Rds w.heap.size hi w' (fun x => RdT x v xss) ∧ Rds w.heap.size hi' w' (fun x => RdT x u zss) ∧ xss.length ≤ 11 ∧ zss.length ≤ 11 ∧ Below w.heap.size w w'
def P1Dr (w w' : World) (e : Ending) : Prop := ∃ m v xss, e = .returned (.agg #[.int .i64 m, v]) ∧ RdT w' v xss ∧ Below w.heap.size w w'
def PPDr (w w' : World) (e : Ending) : Prop := ∃ m v xss q u zss, e = .returned (.tuple #[.agg #[.int .i64 m, v], .agg #[.int .i64 q, u]]) ∧ RdT w' v xss ∧ RdT w' u zss ∧ Below w.heap.size w w'

set_option maxHeartbeats 4000000 in
set_option maxRecDepth 100000 in
theorem l03Two_d (B n : Nat) (v : Value) (w : World) (hv : RdB w B n v) (hB : B ≤ w.heap.size) :
    Calls Try.prog 145 #[v] w fun e w' => P2Dr w w' e := by
  obtain ⟨ov, cv, rfl, hmv, hcv⟩ := id hv
  clear hmv hcv
  go_enter Try.func145, Try.ntmps145
  go_wp2_with fail
  have hR0 := (RB2.mk1 w (.int .i64 0) (.slice none 0 0) 42).below (w' := (w.alloc (.cells #[.int .i64 0, .slice none 0 0] 42)).alloc (.cells #[.int .i64 0, .slice none 0 0] 42)) (by (repeat (first | exact Below.refl _ _ | (refine Below.setCell ?_ (by first | (simp; done) | (simp; omega) | omega) _) | (refine Below.alloc ?_ (by first | (simp; done) | (simp; omega) | omega) _) | (refine below_drewN ?_ _) | (refine Below.drew ?_)))) (Nat.le_refl _)
  have hS0 := RB2.mk2 w (.cells #[.int .i64 0, .slice none 0 0] 42) (.int .i64 0) (.slice none 0 0) 42
  have hb0 : Below w.heap.size w ((w.alloc (.cells #[.int .i64 0, .slice none 0 0] 42)).alloc (.cells #[.int .i64 0, .slice none 0 0] 42)) := (by (repeat (first | exact Below.refl _ _ | (refine Below.setCell ?_ (by first | (simp; done) | (simp; omega) | omega) _) | (refine Below.alloc ?_ (by first | (simp; done) | (simp; omega) | omega) _) | (refine below_drewN ?_ _) | (refine Below.drew ?_))))
  generalize (w.alloc (.cells #[.int .i64 0, .slice none 0 0] 42)).alloc (.cells #[.int .i64 0, .slice none 0 0] 42) = w0 at hR0 hS0 hb0 ⊢
  have hv0 := hv.keep (w' := w0) (fun k hk => hb0.block k (by omega))
  refine (l01From_c B n _ w0 hv0 (by have := hb0.size; omega)).mono ?_
  rintro e w1 ⟨b, rfl, hs1, hb1⟩
  have hbl := hs1.1
  have hlt := hs1.lt
  have hl0 := hS0.1.lt
  have hR1 := hR0.below hb1 (Nat.le_refl _)
  have hS1 := hS0.below hb1 (Nat.le_refl _)
  have hb1 := hb0.trans (hb1.mono hb0.size)
  clear hR0 hS0 hb0 hv0
  go_wp2_with fail
  refine (l03Spoil_d _ n b w1 hs1).mono ?_
  rintro e w2 ⟨m, v, xss, hi, rfl, hA2, ⟨hk1, hk2⟩, hd2⟩
  obtain ⟨o, c, rfl, -, -⟩ := id hA2.now
  have hz2 := hd2.size
  have hR2 := hR1.chg hd2.chg (.inl (by omega))
  have hS2 := hS1.chg hd2.chg (.inl (by omega))
  clear hR1 hS1
  go_wp2_with fail
  have hX2 := RB2.mk1 w2 (.int .i64 m) (.slice o xss.length c) 42
  have hR3 := hR2.below (w' := w2.alloc (.cells #[.int .i64 m, .slice o xss.length c] 42)) (by (repeat (first | exact Below.refl _ _ | (refine Below.setCell ?_ (by first | (simp; done) | (simp; omega) | omega) _) | (refine Below.alloc ?_ (by first | (simp; done) | (simp; omega) | omega) _) | (refine below_drewN ?_ _) | (refine Below.drew ?_)))) (Nat.le_refl _)
  have hS3 := hS2.below (w' := w2.alloc (.cells #[.int .i64 m, .slice o xss.length c] 42)) (by (repeat (first | exact Below.refl _ _ | (refine Below.setCell ?_ (by first | (simp; done) | (simp; omega) | omega) _) | (refine Below.alloc ?_ (by first | (simp; done) | (simp; omega) | omega) _) | (refine below_drewN ?_ _) | (refine Below.drew ?_)))) (Nat.le_refl _)
  have hA3 := hA2.below (w' := w2.alloc (.cells #[.int .i64 m, .slice o xss.length c] 42)) (by (repeat (first | exact Below.refl _ _ | (refine Below.setCell ?_ (by first | (simp; done) | (simp; omega) | omega) _) | (refine Below.alloc ?_ (by first | (simp; done) | (simp; omega) | omega) _) | (refine below_drewN ?_ _) | (refine Below.drew ?_))))
  have hd3 := hd2.alloc (.cells #[.int .i64 m, .slice o xss.length c] 42)
  have hlx := hX2.1.lt
  have hz3 := hA2.1
  clear hR2 hS2 hA2 hd2
  generalize w2.alloc (.cells #[.int .i64 m, .slice o xss.length c] 42) = w3 at hX2 hR3 hS3 hA3 hd3 hlx ⊢
  obtain ⟨⟨x0, x1⟩, xf⟩ := id hX2
  have hC := l03Is_c m _ xss w3 hA3.now
  cases h1 : plaB m xss
  · rw [h1] at hC
    refine hC.mono ?_
    rintro e w4 ⟨rfl, hb4⟩
    have hX4 := hX2.below hb4 (Nat.le_refl _)
    have hR4 := hR3.below hb4 (Nat.le_refl _)
    have hS4 := hS3.below hb4 (Nat.le_refl _)
    have hA4 := hA3.below hb4
    have hd4 := hd3.below hb4
    have hl4 := hX4.1.lt
    clear hX2 hR3 hS3 hA3 hd3 x0 x1 xf hC hb4
    obtain ⟨⟨x0, x1⟩, xf⟩ := id hX4
    go_wp2_with fail
    have hd0 : Below w4.heap.size w4 w4.drew := (Below.refl _ _).drew
    have hsd0 := hd0.size
    refine wp_region_K (S := fun w' => w'.cell? ⟨w2.heap.size, 0, none⟩ = some (.int .i64 m) ∧ w'.cell? ⟨w2.heap.size, 1, none⟩ = some (.slice o xss.length c)) [3, 4] (by kernel_rfl) ?_
    have hHeld : (fun w' : World => w'.cell? ⟨w2.heap.size, 0, none⟩ = some (.int .i64 m) ∧ w'.cell? ⟨w2.heap.size, 1, none⟩ = some (.slice o xss.length c)) w4.drew := by go_keep
    refine' wpAnyK_takeL (i := 0) (v := _) rfl (by kernel_rfl) (by kernel_rfl) (by kernel_rfl) (by kernel_rfl) (fun _ _ _ h => h) (Or.inl ⟨by rfl, ?yT1⟩) hHeld ?rT1
    case yT1 => (intro w' hSw; (try dsimp only at hSw); go_simp; try with_reducible rfl)
    try simp only [List.getElem_toArray, List.getElem_cons_zero, List.getElem_cons_succ, Act.put, List.setIfInBounds_toArray, List.set_cons_zero, List.set_cons_succ]
    refine' wpAnyK_takeL (i := 1) (v := _) rfl (by kernel_rfl) (by kernel_rfl) (by kernel_rfl) (by kernel_rfl) (fun _ _ _ h => h) (Or.inl ⟨by rfl, ?yT2⟩) hHeld ?rT2
    case yT2 => (intro w' hSw; (try dsimp only at hSw); go_simp; try with_reducible rfl)
    try simp only [List.getElem_toArray, List.getElem_cons_zero, List.getElem_cons_succ, Act.put, List.setIfInBounds_toArray, List.set_cons_zero, List.set_cons_succ]
    refine wpAnyK_oneL (i := 2) rfl (by kernel_rfl) (fun K hK => ?_)
    go_simp
    go_at_call 213
    refine (l03Draw_d _ n b _ hd4.drew.src).mono ?_
    rintro e w5 ⟨N, ⟨hN1, hN2⟩, q, u, zss, rfl, hO, hst, hd⟩
    obtain ⟨o', c', rfl⟩ := hO.shape
    have hR6 := (show RB2 w4.drew _ _ _ from hR4).chg hd.chg (.inl (by omega))
    have hS6 := (show RB2 w4.drew _ _ _ from hS4).chg hd.chg (.inl (by omega))
    have hX6 := (show RB2 w4.drew _ _ _ from hX4).chg hd.chg (.inr (by omega))
    have hA6 := (show Rds _ _ w4.drew _ from hA4).dwS hd (by omega)
    have hzz : w4.heap.size ≤ w5.heap.size := hd.size
    have hdd := hd4.drew.trans hd
    obtain ⟨⟨r0, r1⟩, rf⟩ := id hR6
    obtain ⟨⟨s0, s1⟩, sf⟩ := id hS6
    obtain ⟨⟨z0, z1⟩, zf⟩ := id hX6
    have hO6 : OwS w5 w4.heap.size (.slice o' zss.length c') zss := hO
    have hU6 := OwS.rds hO6
    have HY := Lib.hid hst.1
    clear hst hO hd
    go_wp2_with fail
    clear hHeld
    have hHeld : (fun w' : World => w'.cell? ⟨w2.heap.size, 0, none⟩ = some (.int .i64 m) ∧ w'.cell? ⟨w2.heap.size, 1, none⟩ = some (.slice o xss.length c)) w5 := by go_keep
    refine hK.out _ _ (fun _ => hHeld) ?_
    clear hK K
    try simp only [List.getElem_toArray, List.getElem_cons_zero, List.getElem_cons_succ, Act.put, List.setIfInBounds_toArray, List.set_cons_zero, List.set_cons_succ]
    refine wpAnyK_oneL (i := 3) rfl (by kernel_rfl) (fun K hK => ?_)
    go_simp
    (try go_wp2_with fail)
    refine hK.out _ _ (fun h => absurd h (by decide)) ?_
    clear hK K
    try simp only [List.getElem_toArray, List.getElem_cons_zero, List.getElem_cons_succ, Act.put, List.setIfInBounds_toArray, List.set_cons_zero, List.set_cons_succ]
    refine wpAnyK_oneL (i := 4) rfl (by kernel_rfl) (fun K hK => ?_)
    go_simp
    (try go_wp2_with fail)
    refine hK.out _ _ (fun h => absurd h (by decide)) ?_
    clear hK K
    try simp only [List.getElem_toArray, List.getElem_cons_zero, List.getElem_cons_succ, Act.put, List.setIfInBounds_toArray, List.set_cons_zero, List.set_cons_succ]
    refine wpAnyK_done (by kernel_rfl) ?_ _
    go_wp2_with fail
    refine bodyPost_ret (v := .tuple #[.agg #[.int .i64 m, .slice o xss.length c], .agg #[.int .i64 q, .slice o' zss.length c']]) (by simp [results, Try.results145, go_sem, r0, r1, s0, s1]) rfl ⟨m, _, xss, hi, q, _, zss, w5.heap.size, rfl, ?_, ?_, hk2, ?_, ?_⟩
    · exact ((((hA6.put (.inl (by omega)) _ _).put (.inl (by omega)) _ _).put (.inl (by omega)) _ _).put (.inl (by omega)) _ _).weak (by omega)
    · exact ((((hU6.put (.inl (by omega)) _ _).put (.inl (by omega)) _ _).put (.inl (by omega)) _ _).put (.inl (by omega)) _ _).weak (by omega)
    · have := HY.out; omega
    · exact below_put (below_put (below_put (below_put (hdd.out hb1 (by omega)) (by omega) _) (by omega) _) (by omega) _) (by omega) _
  · rw [h1] at hC
    refine hC.mono ?_
    rintro e w4 ⟨rfl, hb4⟩
    have hX4 := hX2.below hb4 (Nat.le_refl _)
    have hR4 := hR3.below hb4 (Nat.le_refl _)
    have hS4 := hS3.below hb4 (Nat.le_refl _)
    have hA4 := hA3.below hb4
    have hd4 := hd3.below hb4
    have hl4 := hX4.1.lt
    clear hX2 hR3 hS3 hA3 hd3 x0 x1 xf hC hb4
    have hpn := pla_n h1
    go_wp2_with fail
    refine (next_d _ n b _ w4 hd4.src).mono ?_
    rintro e w5 ⟨t, rfl, t0, t1, t2, hd5, hz5⟩
    clear t1 t2 hz5
    have hX5 := hX4.dw hd5 (by omega)
    have hR5 := hR4.chg hd5.chg (.inl (by omega))
    have hS5 := hS4.chg hd5.chg (.inl (by omega))
    have hA5 := hA4.dwS hd5 (by omega)
    have hd5 := hd4.trans hd5
    have hl5 := hX5.1.lt
    clear hX4 hR4 hS4 hA4 hd4 hl4
    by_cases ht : t = 0
    · subst ht
      obtain ⟨⟨x0, x1⟩, xf⟩ := id hX5
      go_wp2_with fail
      have hd0 : Below w5.heap.size w5 w5.drew := (Below.refl _ _).drew
      have hsd0 := hd0.size
      refine wp_region_K (S := fun w' => w'.cell? ⟨w2.heap.size, 0, none⟩ = some (.int .i64 m) ∧ w'.cell? ⟨w2.heap.size, 1, none⟩ = some (.slice o xss.length c)) [3, 4] (by kernel_rfl) ?_
      have hHeld : (fun w' : World => w'.cell? ⟨w2.heap.size, 0, none⟩ = some (.int .i64 m) ∧ w'.cell? ⟨w2.heap.size, 1, none⟩ = some (.slice o xss.length c)) w5.drew := by go_keep
      refine' wpAnyK_takeL (i := 0) (v := _) rfl (by kernel_rfl) (by kernel_rfl) (by kernel_rfl) (by kernel_rfl) (fun _ _ _ h => h) (Or.inl ⟨by rfl, ?yT3⟩) hHeld ?rT3
      case yT3 => (intro w' hSw; (try dsimp only at hSw); go_simp; try with_reducible rfl)
      try simp only [List.getElem_toArray, List.getElem_cons_zero, List.getElem_cons_succ, Act.put, List.setIfInBounds_toArray, List.set_cons_zero, List.set_cons_succ]
      refine' wpAnyK_takeL (i := 1) (v := _) rfl (by kernel_rfl) (by kernel_rfl) (by kernel_rfl) (by kernel_rfl) (fun _ _ _ h => h) (Or.inl ⟨by rfl, ?yT4⟩) hHeld ?rT4
      case yT4 => (intro w' hSw; (try dsimp only at hSw); go_simp; try with_reducible rfl)
      try simp only [List.getElem_toArray, List.getElem_cons_zero, List.getElem_cons_succ, Act.put, List.setIfInBounds_toArray, List.set_cons_zero, List.set_cons_succ]
      refine wpAnyK_oneL (i := 2) rfl (by kernel_rfl) (fun K hK => ?_)
      go_simp
      go_at_call 213
      refine (l03Draw_d _ n b _ hd5.drew.src).mono ?_
      rintro e w6 ⟨N, ⟨hN1, hN2⟩, q, u, zss, rfl, hO, hst, hd⟩
      obtain ⟨o', c', rfl⟩ := hO.shape
      have hR6 := (show RB2 w5.drew _ _ _ from hR5).chg hd.chg (.inl (by omega))
      have hS6 := (show RB2 w5.drew _ _ _ from hS5).chg hd.chg (.inl (by omega))
      have hX6 := (show RB2 w5.drew _ _ _ from hX5).chg hd.chg (.inr (by omega))
      have hA6 := (show Rds _ _ w5.drew _ from hA5).dwS hd (by omega)
      have hzz : w5.heap.size ≤ w6.heap.size := hd.size
      have hdd := hd5.drew.trans hd
      obtain ⟨⟨r0, r1⟩, rf⟩ := id hR6
      obtain ⟨⟨s0, s1⟩, sf⟩ := id hS6
      obtain ⟨⟨z0, z1⟩, zf⟩ := id hX6
      have hO6 : OwS w6 w5.heap.size (.slice o' zss.length c') zss := hO
      have hU6 := OwS.rds hO6
      have HY := Lib.hid hst.1
      clear hst hO hd
      go_wp2_with fail
      clear hHeld
      have hHeld : (fun w' : World => w'.cell? ⟨w2.heap.size, 0, none⟩ = some (.int .i64 m) ∧ w'.cell? ⟨w2.heap.size, 1, none⟩ = some (.slice o xss.length c)) w6 := by go_keep
      refine hK.out _ _ (fun _ => hHeld) ?_
      clear hK K
      try simp only [List.getElem_toArray, List.getElem_cons_zero, List.getElem_cons_succ, Act.put, List.setIfInBounds_toArray, List.set_cons_zero, List.set_cons_succ]
      refine wpAnyK_oneL (i := 3) rfl (by kernel_rfl) (fun K hK => ?_)
      go_simp
      (try go_wp2_with fail)
      refine hK.out _ _ (fun h => absurd h (by decide)) ?_
      clear hK K
      try simp only [List.getElem_toArray, List.getElem_cons_zero, List.getElem_cons_succ, Act.put, List.setIfInBounds_toArray, List.set_cons_zero, List.set_cons_succ]
      refine wpAnyK_oneL (i := 4) rfl (by kernel_rfl) (fun K hK => ?_)
      go_simp
      (try go_wp2_with fail)
      refine hK.out _ _ (fun h => absurd h (by decide)) ?_
      clear hK K
      try simp only [List.getElem_toArray, List.getElem_cons_zero, List.getElem_cons_succ, Act.put, List.setIfInBounds_toArray, List.set_cons_zero, List.set_cons_succ]
      refine wpAnyK_done (by kernel_rfl) ?_ _
      go_wp2_with fail
      refine bodyPost_ret (v := .tuple #[.agg #[.int .i64 m, .slice o xss.length c], .agg #[.int .i64 q, .slice o' zss.length c']]) (by simp [results, Try.results145, go_sem, r0, r1, s0, s1]) rfl ⟨m, _, xss, hi, q, _, zss, w6.heap.size, rfl, ?_, ?_, hk2, ?_, ?_⟩
      · exact ((((hA6.put (.inl (by omega)) _ _).put (.inl (by omega)) _ _).put (.inl (by omega)) _ _).put (.inl (by omega)) _ _).weak (by omega)
      · exact ((((hU6.put (.inl (by omega)) _ _).put (.inl (by omega)) _ _).put (.inl (by omega)) _ _).put (.inl (by omega)) _ _).weak (by omega)
      · have := HY.out; omega
      · exact below_put (below_put (below_put (below_put (hdd.out hb1 (by omega)) (by omega) _) (by omega) _) (by omega) _) (by omega) _
    · have ht2 : (t == 0) = false := by simpa using ht
      have i1 : IntKind.i64.wrap ((xss.length : Int) - 1) = (xss.length : Int) - 1 := IntWalk.i64_in _ (by omega)
      obtain ⟨⟨x0, x1⟩, xf⟩ := id hX5
      go_wp2_with fail
      have hd0 : Below w5.heap.size w5 w5.drew := (Below.refl _ _).drew
      have hsd0 := hd0.size
      refine wp_region_K (S := fun w' => w'.cell? ⟨w2.heap.size, 0, none⟩ = some (.int .i64 m) ∧ w'.cell? ⟨w2.heap.size, 1, none⟩ = some (.slice o xss.length c)) [9, 10] (by kernel_rfl) ?_
      have hHeld : (fun w' : World => w'.cell? ⟨w2.heap.size, 0, none⟩ = some (.int .i64 m) ∧ w'.cell? ⟨w2.heap.size, 1, none⟩ = some (.slice o xss.length c)) w5.drew := by go_keep
      refine' wpAnyK_takeL (i := 0) (v := _) rfl (by kernel_rfl) (by kernel_rfl) (by kernel_rfl) (by kernel_rfl) (fun _ _ _ h => h) (Or.inl ⟨by rfl, ?yT5⟩) hHeld ?rT5
      case yT5 => (intro w' hSw; (try dsimp only at hSw); go_simp; try with_reducible rfl)
      try simp only [List.getElem_toArray, List.getElem_cons_zero, List.getElem_cons_succ, Act.put, List.setIfInBounds_toArray, List.set_cons_zero, List.set_cons_succ]
      refine' wpAnyK_takeL (i := 1) (v := _) rfl (by kernel_rfl) (by kernel_rfl) (by kernel_rfl) (by kernel_rfl) (fun _ _ _ h => h) (Or.inl ⟨by rfl, ?yT6⟩) hHeld ?rT6
      case yT6 => (intro w' hSw; (try dsimp only at hSw); go_simp; try with_reducible rfl)
      try simp only [List.getElem_toArray, List.getElem_cons_zero, List.getElem_cons_succ, Act.put, List.setIfInBounds_toArray, List.set_cons_zero, List.set_cons_succ]
      refine' wpAnyK_takeL (i := 2) (v := _) rfl (by kernel_rfl) (by kernel_rfl) (by kernel_rfl) (by kernel_rfl) (fun _ _ _ h => h) (Or.inl ⟨by rfl, ?yT7⟩) hHeld ?rT7
      case yT7 => (intro w' hSw; (try dsimp only at hSw); go_simp; try with_reducible rfl)
      try simp only [List.getElem_toArray, List.getElem_cons_zero, List.getElem_cons_succ, Act.put, List.setIfInBounds_toArray, List.set_cons_zero, List.set_cons_succ]
      refine' wpAnyK_takeL (i := 3) (v := _) rfl (by kernel_rfl) (by kernel_rfl) (by kernel_rfl) (by kernel_rfl) (fun _ _ _ h => h) (Or.inl ⟨by rfl, ?yT8⟩) hHeld ?rT8
      case yT8 => (intro w' hSw; (try dsimp only at hSw); go_simp; try with_reducible rfl)
      try simp only [List.getElem_toArray, List.getElem_cons_zero, List.getElem_cons_succ, Act.put, List.setIfInBounds_toArray, List.set_cons_zero, List.set_cons_succ]
      refine' wpAnyK_takeL (i := 4) (v := _) rfl (by kernel_rfl) (by kernel_rfl) (by kernel_rfl) (by kernel_rfl) (fun _ _ _ h => h) (Or.inl ⟨by rfl, ?yT9⟩) hHeld ?rT9
      case yT9 => (intro w' hSw; (try dsimp only at hSw); go_simp; try with_reducible rfl)
      try simp only [List.getElem_toArray, List.getElem_cons_zero, List.getElem_cons_succ, Act.put, List.setIfInBounds_toArray, List.set_cons_zero, List.set_cons_succ]
      refine' wpAnyK_takeL (i := 5) (v := _) rfl (by kernel_rfl) (by kernel_rfl) (by kernel_rfl) (by kernel_rfl) (fun _ _ _ h => h) (Or.inl ⟨by rfl, ?yT10⟩) hHeld ?rT10
      case yT10 => (intro w' hSw; (try dsimp only at hSw); go_simp; try with_reducible rfl)
      try simp only [List.getElem_toArray, List.getElem_cons_zero, List.getElem_cons_succ, Act.put, List.setIfInBounds_toArray, List.set_cons_zero, List.set_cons_succ]
      refine' wpAnyK_takeL (i := 6) (v := _) rfl (by kernel_rfl) (by kernel_rfl) (by kernel_rfl) (by kernel_rfl) (fun _ _ _ h => h) (Or.inl ⟨by rfl, ?yT11⟩) hHeld ?rT11
      case yT11 => (intro w' hSw; (try dsimp only at hSw); go_simp; try with_reducible rfl)
      try simp only [List.getElem_toArray, List.getElem_cons_zero, List.getElem_cons_succ, Act.put, List.setIfInBounds_toArray, List.set_cons_zero, List.set_cons_succ]
      refine' wpAnyK_takeL (i := 7) (v := _) rfl (by kernel_rfl) (by kernel_rfl) (by kernel_rfl) (by kernel_rfl) (fun _ _ _ h => h) (Or.inl ⟨by rfl, ?yT12⟩) hHeld ?rT12
      case yT12 => (intro w' hSw; (try dsimp only at hSw); go_simp; try with_reducible rfl)
      try simp only [List.getElem_toArray, List.getElem_cons_zero, List.getElem_cons_succ, Act.put, List.setIfInBounds_toArray, List.set_cons_zero, List.set_cons_succ]
      refine wpAnyK_oneL (i := 8) rfl (by kernel_rfl) (fun K hK => ?_)
      go_simp
      go_at_call 214
      refine (with_i _ n b m ((xss.length : Int) - 1) (xss.length - 1) _ hd5.drew.src (by omega) (by omega)).mono ?_
      rintro e w6 ⟨q, u, zss, rfl, hO, hst, hd⟩
      have hN2 : xss.length - 1 + 1 ≤ 11 := by omega
      obtain ⟨o', c', rfl⟩ := hO.shape
      have hR6 := (show RB2 w5.drew _ _ _ from hR5).chg hd.chg (.inl (by omega))
      have hS6 := (show RB2 w5.drew _ _ _ from hS5).chg hd.chg (.inl (by omega))
      have hX6 := (show RB2 w5.drew _ _ _ from hX5).chg hd.chg (.inr (by omega))
      have hA6 := (show Rds _ _ w5.drew _ from hA5).dwS hd (by omega)
      have hzz : w5.heap.size ≤ w6.heap.size := hd.size
      have hdd := hd5.drew.trans hd
      obtain ⟨⟨r0, r1⟩, rf⟩ := id hR6
      obtain ⟨⟨s0, s1⟩, sf⟩ := id hS6
      obtain ⟨⟨z0, z1⟩, zf⟩ := id hX6
      have hO6 : OwS w6 w5.heap.size (.slice o' zss.length c') zss := hO
      have hU6 := OwS.rds hO6
      have HY := Lib.hid hst.1
      clear hst hO hd
      go_wp2_with fail
      clear hHeld
      have hHeld : (fun w' : World => w'.cell? ⟨w2.heap.size, 0, none⟩ = some (.int .i64 m) ∧ w'.cell? ⟨w2.heap.size, 1, none⟩ = some (.slice o xss.length c)) w6 := by go_keep
      refine hK.out _ _ (fun _ => hHeld) ?_
      clear hK K
      try simp only [List.getElem_toArray, List.getElem_cons_zero, List.getElem_cons_succ, Act.put, List.setIfInBounds_toArray, List.set_cons_zero, List.set_cons_succ]
      refine wpAnyK_oneL (i := 9) rfl (by kernel_rfl) (fun K hK => ?_)
      go_simp
      (try go_wp2_with fail)
      refine hK.out _ _ (fun h => absurd h (by decide)) ?_
      clear hK K
      try simp only [List.getElem_toArray, List.getElem_cons_zero, List.getElem_cons_succ, Act.put, List.setIfInBounds_toArray, List.set_cons_zero, List.set_cons_succ]
      refine wpAnyK_oneL (i := 10) rfl (by kernel_rfl) (fun K hK => ?_)
      go_simp
      (try go_wp2_with fail)
      refine hK.out _ _ (fun h => absurd h (by decide)) ?_
      clear hK K
      try simp only [List.getElem_toArray, List.getElem_cons_zero, List.getElem_cons_succ, Act.put, List.setIfInBounds_toArray, List.set_cons_zero, List.set_cons_succ]
      refine wpAnyK_done (by kernel_rfl) ?_ _
      go_wp2_with fail
      refine bodyPost_ret (v := .tuple #[.agg #[.int .i64 m, .slice o xss.length c], .agg #[.int .i64 q, .slice o' zss.length c']]) (by simp [results, Try.results145, go_sem, r0, r1, s0, s1]) rfl ⟨m, _, xss, hi, q, _, zss, w6.heap.size, rfl, ?_, ?_, hk2, ?_, ?_⟩
      · exact ((((hA6.put (.inl (by omega)) _ _).put (.inl (by omega)) _ _).put (.inl (by omega)) _ _).put (.inl (by omega)) _ _).weak (by omega)
      · exact ((((hU6.put (.inl (by omega)) _ _).put (.inl (by omega)) _ _).put (.inl (by omega)) _ _).put (.inl (by omega)) _ _).weak (by omega)
      · have := HY.out; omega
      · exact below_put (below_put (below_put (below_put (hdd.out hb1 (by omega)) (by omega) _) (by omega) _) (by omega) _) (by omega) _

set_option maxHeartbeats 1000000 in
set_option maxRecDepth 100000 in
theorem DrawMultiplyPlanes_d (B n : Nat) (v : Value) (w : World) (hv : RdB w B n v) (hB : B ≤ w.heap.size) :
    Calls Try.prog 44 #[v] w fun e w' => PPDr w w' e := by
  obtain ⟨ov, cv, rfl, hmv, hcv⟩ := id hv
  clear hmv hcv
  go_enter Try.func44, Try.ntmps44
  go_wp2_with fail
  have hR0 := (RB2.mk1 w (.int .i64 0) (.slice none 0 0) 42).below (w' := (w.alloc (.cells #[.int .i64 0, .slice none 0 0] 42)).alloc (.cells #[.int .i64 0, .slice none 0 0] 42)) (by (repeat (first | exact Below.refl _ _ | (refine Below.setCell ?_ (by first | (simp; done) | (simp; omega) | omega) _) | (refine Below.alloc ?_ (by first | (simp; done) | (simp; omega) | omega) _) | (refine below_drewN ?_ _) | (refine Below.drew ?_)))) (Nat.le_refl _)
  have hS0 := RB2.mk2 w (.cells #[.int .i64 0, .slice none 0 0] 42) (.int .i64 0) (.slice none 0 0) 42
  have hb0 : Below w.heap.size w ((w.alloc (.cells #[.int .i64 0, .slice none 0 0] 42)).alloc (.cells #[.int .i64 0, .slice none 0 0] 42)) := (by (repeat (first | exact Below.refl _ _ | (refine Below.setCell ?_ (by first | (simp; done) | (simp; omega) | omega) _) | (refine Below.alloc ?_ (by first | (simp; done) | (simp; omega) | omega) _) | (refine below_drewN ?_ _) | (refine Below.drew ?_))))
  generalize (w.alloc (.cells #[.int .i64 0, .slice none 0 0] 42)).alloc (.cells #[.int .i64 0, .slice none 0 0] 42) = w0 at hR0 hS0 hb0 ⊢
  have hv0 := hv.keep (w' := w0) (fun k hk => hb0.block k (by omega))
  have hl0 := hS0.1.lt
  refine (l03Two_d B n _ w0 hv0 (by omega)).mono ?_
  rintro e w1 ⟨m, v, xss, hi, q, u, zss, hi', rfl, hA1, hU1, -, -, hb1⟩
  obtain ⟨o, c, rfl, -, -⟩ := id hA1.now
  obtain ⟨o', c', rfl, -, -⟩ := id hU1.now
  have hR1 := hR0.below hb1 (Nat.le_refl _)
  have hS1 := hS0.below hb1 (Nat.le_refl _)
  have hb1 := hb0.trans (hb1.mono hb0.size)
  go_wp2_with fail
  have hlS := hS1.1.lt
  have hlR := hR1.1.lt
  have hbs := hb1.size
  have hX2 := (RB2.mk1 w1 (.int .i64 m) (.slice o xss.length c) 42).below (w' := ((w1.alloc (.cells #[.int .i64 m, .slice o xss.length c] 42)).alloc (.cells #[.int .i64 q, .slice o' zss.length c'] 42))) (by (repeat (first | exact Below.refl _ _ | (refine Below.setCell ?_ (by first | (simp; done) | (simp; omega) | omega) _) | (refine Below.alloc ?_ (by first | (simp; done) | (simp; omega) | omega) _) | (refine below_drewN ?_ _) | (refine Below.drew ?_)))) (Nat.le_refl _)
  have hY2 := RB2.mk2 w1 (.cells #[.int .i64 m, .slice o xss.length c] 42) (.int .i64 q) (.slice o' zss.length c') 42
  have hR2 := hR1.below (w' := ((w1.alloc (.cells #[.int .i64 m, .slice o xss.length c] 42)).alloc (.cells #[.int .i64 q, .slice o' zss.length c'] 42))) (by (repeat (first | exact Below.refl _ _ | (refine Below.setCell ?_ (by first | (simp; done) | (simp; omega) | omega) _) | (refine Below.alloc ?_ (by first | (simp; done) | (simp; omega) | omega) _) | (refine below_drewN ?_ _) | (refine Below.drew ?_)))) (Nat.le_refl _)
  have hS2 := hS1.below (w' := ((w1.alloc (.cells #[.int .i64 m, .slice o xss.length c] 42)).alloc (.cells #[.int .i64 q, .slice o' zss.length c'] 42))) (by (repeat (first | exact Below.refl _ _ | (refine Below.setCell ?_ (by first | (simp; done) | (simp; omega) | omega) _) | (refine Below.alloc ?_ (by first | (simp; done) | (simp; omega) | omega) _) | (refine below_drewN ?_ _) | (refine Below.drew ?_)))) (Nat.le_refl _)
  have hA2 := hA1.below (w' := ((w1.alloc (.cells #[.int .i64 m, .slice o xss.length c] 42)).alloc (.cells #[.int .i64 q, .slice o' zss.length c'] 42))) (by (repeat (first | exact Below.refl _ _ | (refine Below.setCell ?_ (by first | (simp; done) | (simp; omega) | omega) _) | (refine Below.alloc ?_ (by first | (simp; done) | (simp; omega) | omega) _) | (refine below_drewN ?_ _) | (refine Below.drew ?_))))
  have hU2 := hU1.below (w' := ((w1.alloc (.cells #[.int .i64 m, .slice o xss.length c] 42)).alloc (.cells #[.int .i64 q, .slice o' zss.length c'] 42))) (by (repeat (first | exact Below.refl _ _ | (refine Below.setCell ?_ (by first | (simp; done) | (simp; omega) | omega) _) | (refine Below.alloc ?_ (by first | (simp; done) | (simp; omega) | omega) _) | (refine below_drewN ?_ _) | (refine Below.drew ?_))))
  have hb2 : Below w.heap.size w (((w1.alloc (.cells #[.int .i64 m, .slice o xss.length c] 42)).alloc (.cells #[.int .i64 q, .slice o' zss.length c'] 42))) := (hb1.alloc (by omega) _).alloc (by simp; omega) _
  clear hR1 hS1 hA1 hU1 hb1
  generalize ((w1.alloc (.cells #[.int .i64 m, .slice o xss.length c] 42)).alloc (.cells #[.int .i64 q, .slice o' zss.length c'] 42)) = w2 at hX2 hY2 hR2 hS2 hA2 hU2 hb2 ⊢
  obtain ⟨⟨x0, x1⟩, -⟩ := id hX2
  obtain ⟨⟨y0, y1⟩, -⟩ := id hY2
  obtain ⟨⟨r0, r1⟩, rf⟩ := id hR2
  obtain ⟨⟨s0, s1⟩, sf⟩ := id hS2
  have n1 : w1.heap.size ≠ w.heap.size := by omega
  have n2 : w1.heap.size ≠ w.heap.size + 1 := by omega
  have n3 : w1.heap.size + 1 ≠ w.heap.size := by omega
  go_region
  go_wp2_with fail
  refine bodyPost_ret (v := .tuple #[.agg #[.int .i64 m, .slice o xss.length c], .agg #[.int .i64 q, .slice o' zss.length c']]) (by simp [results, Try.results44, go_sem, r0, r1, s0, s1]) rfl ⟨m, _, xss, q, _, zss, rfl, ?_, ?_, ?_⟩
  · exact ((((hA2.put (.inl (by omega)) _ _).put (.inl (by omega)) _ _).put (.inl (by omega)) _ _).put (.inl (by omega)) _ _).now
  · exact ((((hU2.put (.inl (by omega)) _ _).put (.inl (by omega)) _ _).put (.inl (by omega)) _ _).put (.inl (by omega)) _ _).now
  · refine Below.drew ?_
    exact below_put (below_put (below_put (below_put hb2 (by omega) _) (by omega) _) (by omega) _) (by omega) _

set_option maxHeartbeats 4000000 in
set_option maxRecDepth 100000 in
theorem DrawIsSymmetricPlane_d (B n : Nat) (v : Value) (w : World) (hv : RdB w B n v) (hB : B ≤ w.heap.size) :
    Calls Try.prog 55 #[v] w fun e w' => P1Dr w w' e := by
  obtain ⟨ov, cv, rfl, hmv, hcv⟩ := id hv
  clear hmv hcv
  go_enter Try.func55, Try.ntmps55
  go_wp2_with fail
  have hR0 := RB2.mk1 w (.int .i64 0) (.slice none 0 0) 42
  have hb0 : Below w.heap.size w (w.alloc (.cells #[.int .i64 0, .slice none 0 0] 42)) := (by (repeat (first | exact Below.refl _ _ | (refine Below.setCell ?_ (by first | (simp; done) | (simp; omega) | omega) _) | (refine Below.alloc ?_ (by first | (simp; done) | (simp; omega) | omega) _) | (refine below_drewN ?_ _) | (refine Below.drew ?_))))
  generalize w.alloc (.cells #[.int .i64 0, .slice none 0 0] 42) = w0 at hR0 hb0 ⊢
  have hv0 := hv.keep (w' := w0) (fun k hk => hb0.block k (by omega))
  refine (l01From_c B n _ w0 hv0 (by have := hb0.size; omega)).mono ?_
  rintro e w1 ⟨b, rfl, hs1, hb1⟩
  have hbl := hs1.1
  have hlt := hs1.lt
  have hl0 := hR0.1.lt
  have hR1 := hR0.below hb1 (Nat.le_refl _)
  have hb1 := hb0.trans (hb1.mono hb0.size)
  clear hR0 hb0 hv0
  go_wp2_with fail
  refine (l03Spoil_d _ n b w1 hs1).mono ?_
  rintro e w2 ⟨m, v, xss, hi, rfl, hA2, ⟨hk1, hk2⟩, hd2⟩
  obtain ⟨o, c, rfl, -, -⟩ := id hA2.now
  have hz2 := hd2.size
  have hR2 := hR1.chg hd2.chg (.inl (by omega))
  clear hR1 
  go_wp2_with fail
  have hX2 := RB2.mk1 w2 (.int .i64 m) (.slice o xss.length c) 42
  have hR3 := hR2.below (w' := w2.alloc (.cells #[.int .i64 m, .slice o xss.length c] 42)) (by (repeat (first | exact Below.refl _ _ | (refine Below.setCell ?_ (by first | (simp; done) | (simp; omega) | omega) _) | (refine Below.alloc ?_ (by first | (simp; done) | (simp; omega) | omega) _) | (refine below_drewN ?_ _) | (refine Below.drew ?_)))) (Nat.le_refl _)
  have hA3 := hA2.below (w' := w2.alloc (.cells #[.int .i64 m, .slice o xss.length c] 42)) (by (repeat (first | exact Below.refl _ _ | (refine Below.setCell ?_ (by first | (simp; done) | (simp; omega) | omega) _) | (refine Below.alloc ?_ (by first | (simp; done) | (simp; omega) | omega) _) | (refine below_drewN ?_ _) | (refine Below.drew ?_))))
  have hd3 := hd2.alloc (.cells #[.int .i64 m, .slice o xss.length c] 42)
  have hlx := hX2.1.lt
  have hz3 := hA2.1
  clear hR2 hA2 hd2
  generalize w2.alloc (.cells #[.int .i64 m, .slice o xss.length c] 42) = w3 at hX2 hR3 hA3 hd3 hlx ⊢
  obtain ⟨⟨x0, x1⟩, xf⟩ := id hX2
  have hC := l03Is_c m _ xss w3 hA3.now
  cases h1 : plaB m xss
  · rw [h1] at hC
    refine hC.mono ?_
    rintro e w4 ⟨rfl, hb4⟩
    have hX4 := hX2.below hb4 (Nat.le_refl _)
    have hR4 := hR3.below hb4 (Nat.le_refl _)
    have hA4 := hA3.below hb4
    have hd4 := hd3.below hb4
    have hl4 := hX4.1.lt
    clear hX2 hR3 hA3 hd3 x0 x1 xf hC hb4
    obtain ⟨⟨x0, x1⟩, xf⟩ := id hX4
    obtain ⟨⟨r0, r1⟩, rf⟩ := id hR4
    go_wp2_with fail
    refine bodyPost_ret (v := .agg #[.int .i64 m, .slice o xss.length c]) (by simp [results, Try.results55, go_sem, r0, r1]) rfl ⟨m, _, xss, rfl, ?_, ?_⟩
    · exact ((hA4.put (.inl (by omega)) _ _).put (.inl (by omega)) _ _).now
    · exact below_put (below_put (hd4.out hb1 (by omega)) (by omega) _) (by omega) _
  · rw [h1] at hC
    refine hC.mono ?_
    rintro e w4 ⟨rfl, hb4⟩
    have hX4 := hX2.below hb4 (Nat.le_refl _)
    have hR4 := hR3.below hb4 (Nat.le_refl _)
    have hA4 := hA3.below hb4
    have hd4 := hd3.below hb4
    have hl4 := hX4.1.lt
    clear hX2 hR3 hA3 hd3 x0 x1 xf hC hb4
    have hpn := pla_n h1
    have hpm := pla_m h1
    have HX := Lib.hid (pla_row h1)
    go_wp2_with fail
    refine (next_d _ n b _ w4 hd4.src).mono ?_
    rintro e w5 ⟨t, rfl, t0, t1, t2, hd5, hz5⟩
    clear t1 t2 hz5
    have hX5 := hX4.dw hd5 (by omega)
    have hR5 := hR4.chg hd5.chg (.inl (by omega))
    have hA5 := hA4.dwS hd5 (by omega)
    have hd5 := hd4.trans hd5
    have hl5 := hX5.1.lt
    clear hX4 hR4 hA4 hd4 hl4
    by_cases ht : t = 0
    · subst ht
      have hv5 := hA5.now
      have hX51 := hX5.1
      go_wp2_with fail
      have hd0 : Below w5.heap.size w5 w5.drew := (Below.refl _ _).drew
      have hsd0 := hd0.size
      obtain ⟨f0_a, f0_b⟩ := ((hX51).below (Below.refl w5.heap.size w5) (Nat.le_refl _))
      obtain ⟨⟨g0_a, g0_b⟩, g0_f⟩ := ((hR5).below (Below.refl w5.heap.size w5) (Nat.le_refl _))
      refine wp_region_K (S := fun w' => w'.cell? ⟨w2.heap.size, 0, none⟩ = some (.int .i64 m) ∧ w'.cell? ⟨w2.heap.size, 1, none⟩ = some (.slice o xss.length c)) [11] (by kernel_rfl) ?_
      have hHeld : (fun w' : World => w'.cell? ⟨w2.heap.size, 0, none⟩ = some (.int .i64 m) ∧ w'.cell? ⟨w2.heap.size, 1, none⟩ = some (.slice o xss.length c)) w5.drew := by go_keep
      refine' wpAnyK_takeL (i := 0) (v := _) rfl (by kernel_rfl) (by kernel_rfl) (by kernel_rfl) (by kernel_rfl) (fun _ _ _ h => h) (Or.inl ⟨by rfl, ?yT13⟩) hHeld ?rT13
      case yT13 => (intro w' hSw; (try dsimp only at hSw); go_simp; try with_reducible rfl)
      try simp only [List.getElem_toArray, List.getElem_cons_zero, List.getElem_cons_succ, Act.put, List.setIfInBounds_toArray, List.set_cons_zero, List.set_cons_succ]
      refine' wpAnyK_takeL (i := 1) (v := _) rfl (by kernel_rfl) (by kernel_rfl) (by kernel_rfl) (by kernel_rfl) (fun _ _ _ h => h) (Or.inl ⟨by rfl, ?yT14⟩) hHeld ?rT14
      case yT14 => (intro w' hSw; (try dsimp only at hSw); go_simp; try with_reducible rfl)
      try simp only [List.getElem_toArray, List.getElem_cons_zero, List.getElem_cons_succ, Act.put, List.setIfInBounds_toArray, List.set_cons_zero, List.set_cons_succ]
      refine' wpAnyK_takeL (i := 2) (v := _) rfl (by kernel_rfl) (by kernel_rfl) (by kernel_rfl) (by kernel_rfl) (fun _ _ _ h => h) (Or.inl ⟨by rfl, ?yT15⟩) hHeld ?rT15
      case yT15 => (intro w' hSw; (try dsimp only at hSw); go_simp; try with_reducible rfl)
      try simp only [List.getElem_toArray, List.getElem_cons_zero, List.getElem_cons_succ, Act.put, List.setIfInBounds_toArray, List.set_cons_zero, List.set_cons_succ]
      refine' wpAnyK_takeL (i := 3) (v := _) rfl (by kernel_rfl) (by kernel_rfl) (by kernel_rfl) (by kernel_rfl) (fun _ _ _ h => h) (Or.inl ⟨by rfl, ?yT16⟩) hHeld ?rT16
      case yT16 => (intro w' hSw; (try dsimp only at hSw); go_simp; try with_reducible rfl)
      try simp only [List.getElem_toArray, List.getElem_cons_zero, List.getElem_cons_succ, Act.put, List.setIfInBounds_toArray, List.set_cons_zero, List.set_cons_succ]
      refine' wpAnyK_takeL (i := 4) (v := _) rfl (by kernel_rfl) (by kernel_rfl) (by kernel_rfl) (by kernel_rfl) (fun _ _ _ h => h) (Or.inl ⟨by rfl, ?yT17⟩) hHeld ?rT17
      case yT17 => (intro w' hSw; (try dsimp only at hSw); go_simp; try with_reducible rfl)
      try simp only [List.getElem_toArray, List.getElem_cons_zero, List.getElem_cons_succ, Act.put, List.setIfInBounds_toArray, List.set_cons_zero, List.set_cons_succ]
      refine' wpAnyK_takeL (i := 5) (v := _) rfl (by kernel_rfl) (by kernel_rfl) (by kernel_rfl) (by kernel_rfl) (fun _ _ _ h => h) (Or.inl ⟨by rfl, ?yT18⟩) hHeld ?rT18
      case yT18 => (intro w' hSw; (try dsimp only at hSw); go_simp; try with_reducible rfl)
      try simp only [List.getElem_toArray, List.getElem_cons_zero, List.getElem_cons_succ, Act.put, List.setIfInBounds_toArray, List.set_cons_zero, List.set_cons_succ]
      refine' wpAnyK_takeL (i := 6) (v := _) rfl (by kernel_rfl) (by kernel_rfl) (by kernel_rfl) (by kernel_rfl) (fun _ _ _ h => h) (Or.inl ⟨by rfl, ?yT19⟩) hHeld ?rT19
      case yT19 => (intro w' hSw; (try dsimp only at hSw); go_simp; try with_reducible rfl)
      try simp only [List.getElem_toArray, List.getElem_cons_zero, List.getElem_cons_succ, Act.put, List.setIfInBounds_toArray, List.set_cons_zero, List.set_cons_succ]
      refine' wpAnyK_takeL (i := 7) (v := _) rfl (by kernel_rfl) (by kernel_rfl) (by kernel_rfl) (by kernel_rfl) (fun _ _ _ h => h) (Or.inl ⟨by rfl, ?yT20⟩) hHeld ?rT20
      case yT20 => (intro w' hSw; (try dsimp only at hSw); go_simp; try with_reducible rfl)
      try simp only [List.getElem_toArray, List.getElem_cons_zero, List.getElem_cons_succ, Act.put, List.setIfInBounds_toArray, List.set_cons_zero, List.set_cons_succ]
      refine wpAnyK_oneL (i := 8) rfl (by kernel_rfl) (fun K hK => ?_)
      go_simp
      go_at_call 165
      refine (l03Turn_c m xss.length _ xss _ ((hv5).below (by (repeat (first | exact Below.refl _ _ | (refine Below.setCell ?_ (by first | (simp; done) | (simp; omega) | omega) _) | (refine Below.alloc ?_ (by first | (simp; done) | (simp; omega) | omega) _) | (refine below_drewN ?_ _) | (refine Below.drew ?_)))) (Nat.le_refl _)) (by omega) (by omega) ⟨rfl, HX.out⟩).mono ?_
      rintro e wd1 ⟨vt1, rfl, hod1, hbd1⟩
      obtain ⟨ot, ct, rfl⟩ := hod1.shapeN (n := xss.length) (tri_len _ _)
      have hd1 : Below w5.heap.size w5 wd1 := (by (repeat (first | exact Below.refl _ _ | (refine Below.setCell ?_ (by first | (simp; done) | (simp; omega) | omega) _) | (refine Below.alloc ?_ (by first | (simp; done) | (simp; omega) | omega) _) | (refine below_drewN ?_ _) | (refine Below.drew ?_) | (refine Below.trans ?_ (Below.mono hbd1 (by first | (simp; done) | (simp; omega) | omega))))))
      have hsd1 := hd1.size
      have hsz1_ := hbd1.size
      (try simp at hsz1_)
      obtain ⟨f1_a, f1_b⟩ := ((hX51).below hd1 (Nat.le_refl _))
      obtain ⟨⟨g1_a, g1_b⟩, g1_f⟩ := ((hR5).below hd1 (Nat.le_refl _))
      go_wp2_with fail
      clear hHeld
      have hHeld : (fun w' : World => w'.cell? ⟨w2.heap.size, 0, none⟩ = some (.int .i64 m) ∧ w'.cell? ⟨w2.heap.size, 1, none⟩ = some (.slice o xss.length c)) wd1 := by go_keep
      refine hK.out _ _ (fun _ => hHeld) ?_
      clear hK K
      try simp only [List.getElem_toArray, List.getElem_cons_zero, List.getElem_cons_succ, Act.put, List.setIfInBounds_toArray, List.set_cons_zero, List.set_cons_succ]
      refine wpAnyK_oneL (i := 9) rfl (by kernel_rfl) (fun K hK => ?_)
      go_simp
      go_at_call 152
      refine (l03Add_c m _ _ xss (turnT m xss) _ ((hv5).below (by (repeat (first | exact Below.refl _ _ | (refine Below.setCell ?_ (by first | (simp; done) | (simp; omega) | omega) _) | (refine Below.alloc ?_ (by first | (simp; done) | (simp; omega) | omega) _) | (refine below_drewN ?_ _) | (refine Below.drew ?_) | (refine Below.trans ?_ (Below.mono hbd1 (by first | (simp; done) | (simp; omega) | omega)))))) (Nat.le_refl _)) ((hod1.below (by (repeat (first | exact Below.refl _ _ | (refine Below.setCell ?_ (by first | (simp; done) | (simp; omega) | omega) _) | (refine Below.alloc ?_ (by first | (simp; done) | (simp; omega) | omega) _) | (refine below_drewN ?_ _) | (refine Below.drew ?_)))))).rd (by omega) (by omega) (by omega) (tri_len _ _) HX.out (turn_pla (by omega) xss).2).mono ?_
      rintro e wd2 ⟨va2, rfl, hod2, hbd2⟩
      obtain ⟨oa, ca, rfl⟩ := hod2.shapeN (n := xss.length) (addT_len _ _ _ _)
      have hd2 : Below w5.heap.size w5 wd2 := (by (repeat (first | exact Below.refl _ _ | (refine Below.setCell ?_ (by first | (simp; done) | (simp; omega) | omega) _) | (refine Below.alloc ?_ (by first | (simp; done) | (simp; omega) | omega) _) | (refine below_drewN ?_ _) | (refine Below.drew ?_) | (refine Below.trans ?_ (Below.mono hbd1 (by first | (simp; done) | (simp; omega) | omega))) | (refine Below.trans ?_ (Below.mono hbd2 (by first | (simp; done) | (simp; omega) | omega))))))
      have hsd2 := hd2.size
      have hsz2_ := hbd2.size
      (try simp at hsz2_)
      obtain ⟨f2_a, f2_b⟩ := ((hX51).below hd2 (Nat.le_refl _))
      obtain ⟨⟨g2_a, g2_b⟩, g2_f⟩ := ((hR5).below hd2 (Nat.le_refl _))
      go_wp2_with fail
      clear hHeld
      have hHeld : (fun w' : World => w'.cell? ⟨w2.heap.size, 0, none⟩ = some (.int .i64 m) ∧ w'.cell? ⟨w2.heap.size, 1, none⟩ = some (.slice o xss.length c)) wd2 := by go_keep
      refine hK.out _ _ (fun _ => hHeld) ?_
      clear hK K
      try simp only [List.getElem_toArray, List.getElem_cons_zero, List.getElem_cons_succ, Act.put, List.setIfInBounds_toArray, List.set_cons_zero, List.set_cons_succ]
      refine wpAnyK_oneL (i := 10) rfl (by kernel_rfl) (fun K hK => ?_)
      go_simp
      go_at_call 149
      refine (l03Make_c m oa xss.length ca _).mono ?_
      rintro e wd3 ⟨rfl, hbd3⟩
      have hd3 : Below w5.heap.size w5 wd3 := (by (repeat (first | exact Below.refl _ _ | (refine Below.setCell ?_ (by first | (simp; done) | (simp; omega) | omega) _) | (refine Below.alloc ?_ (by first | (simp; done) | (simp; omega) | omega) _) | (refine below_drewN ?_ _) | (refine Below.drew ?_) | (refine Below.trans ?_ (Below.mono hbd1 (by first | (simp; done) | (simp; omega) | omega))) | (refine Below.trans ?_ (Below.mono hbd2 (by first | (simp; done) | (simp; omega) | omega))) | (refine Below.trans ?_ (Below.mono hbd3 (by first | (simp; done) | (simp; omega) | omega))))))
      have hsd3 := hd3.size
      have hsz3_ := hbd3.size
      (try simp at hsz3_)
      obtain ⟨f3_a, f3_b⟩ := ((hX51).below hd3 (Nat.le_refl _))
      obtain ⟨⟨g3_a, g3_b⟩, g3_f⟩ := ((hR5).below hd3 (Nat.le_refl _))
      go_wp2_with fail
      clear hHeld
      have hHeld : (fun w' : World => w'.cell? ⟨w2.heap.size, 0, none⟩ = some (.int .i64 m) ∧ w'.cell? ⟨w2.heap.size, 1, none⟩ = some (.slice o xss.length c)) wd3 := by go_keep
      refine hK.out _ _ (fun _ => hHeld) ?_
      clear hK K
      try simp only [List.getElem_toArray, List.getElem_cons_zero, List.getElem_cons_succ, Act.put, List.setIfInBounds_toArray, List.set_cons_zero, List.set_cons_succ]
      refine wpAnyK_oneL (i := 11) rfl (by kernel_rfl) (fun K hK => ?_)
      go_simp
      (try go_wp2_with fail)
      refine hK.out _ _ (fun h => absurd h (by decide)) ?_
      clear hK K
      try simp only [List.getElem_toArray, List.getElem_cons_zero, List.getElem_cons_succ, Act.put, List.setIfInBounds_toArray, List.set_cons_zero, List.set_cons_succ]
      refine wpAnyK_done (by kernel_rfl) ?_ _
      go_wp2_with fail
      go_wp2_with fail
      refine bodyPost_ret (v := .agg #[.int .i64 m, .slice oa xss.length ca]) (by simp [results, Try.results55, go_sem, g3_a, g3_b]) rfl ⟨m, _, addT m xss.length xss (turnT m xss), rfl, ?_, ?_⟩
      · exact (((hod2.below hbd3).low (by omega) _).low (by omega) _).rd
      · exact below_put (below_put ((hd5.out hb1 (by omega)).trans (hd3.mono (by have := hb1.size; have := hd5.size; omega))) (by omega) _) (by omega) _
    · have ht2 : (t == 0) = false := by simpa using ht
      obtain ⟨⟨x0, x1⟩, xf⟩ := id hX5
      obtain ⟨⟨r0, r1⟩, rf⟩ := id hR5
      go_wp2_with fail
      refine bodyPost_ret (v := .agg #[.int .i64 m, .slice o xss.length c]) (by simp [results, Try.results55, go_sem, r0, r1]) rfl ⟨m, _, xss, rfl, ?_, ?_⟩
      · exact ((hA5.put (.inl (by omega)) _ _).put (.inl (by omega)) _ _).now
      · exact below_put (below_put (hd5.out hb1 (by omega)) (by omega) _) (by omega) _
end Go.Proofs.Ytcjinlfgeljmkaa
