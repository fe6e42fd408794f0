/- Lemmas of SrcU. -/
import Derived.Test.YtcjinlfgeljmkaaWSSrcV
set_option linter.unusedSimpArgs false
set_option linter.unusedVariables false
namespace Go.Proofs.Ytcjinlfgeljmkaa
open Go.RowKit

def W1Dr (w w' : World) (e : Ending) : Prop := ∃ p m v xs, e = .returned (.agg #[.int .i64 p, .int .i64 m, v]) ∧ OwI w' w.heap.size v xs ∧ Below w.heap.size w w'
def WIDr (w w' : World) (e : Ending) : Prop := ∃ p m v xs k, e = .returned (.tuple #[.agg #[.int .i64 p, .int .i64 m, v], .int .i64 k]) ∧ OwI w' w.heap.size v xs ∧ Below w.heap.size w w'
def I4Dr (w w' : World) (e : Ending) : Prop := ∃ p m n c, e = .returned (.tuple #[.int .i64 p, .int .i64 m, .int .i64 n, .int .i64 c]) ∧ Below w.heap.size w w'
def I3Dr (w w' : World) (e : Ending) : Prop := ∃ p n c, e = .returned (.tuple #[.int .i64 p, .int .i64 n, .int .i64 c]) ∧ Below w.heap.size w w'

set_option maxHeartbeats 400000 in
set_option maxRecDepth 100000 in
theorem DrawIsWitt_d (B n : Nat) (v : Value) (w : World) (hv : RdB w B n v) (hB : B ≤ w.heap.size) :
    Calls Try.prog 180 #[v] w fun e w' => W1Dr w w' e := by
  obtain ⟨ov, cv, rfl, hmv, hcv⟩ := id hv
  clear hmv hcv
  go_enter Try.func180, Try.ntmps180
  go_wp2_with fail
  have hR0 := RB3.mk1 w (.int .i64 0) (.int .i64 0) (.slice none 0 0) 59
  have hb0 : Below w.heap.size w (w.alloc (.cells #[.int .i64 0, .int .i64 0, .slice none 0 0] 59)) := (by (repeat (first | exact Below.refl _ _ | (refine Below.setCell ?_ (by first | (simp; done) | (simp; omega) | omega) _) | (refine Below.alloc ?_ (by first | (simp; done) | (simp; omega) | omega) _) | (refine below_drewN ?_ _) | (refine Below.drew ?_))))
  generalize w.alloc (.cells #[.int .i64 0, .int .i64 0, .slice none 0 0] 59) = w0 at hR0 hb0 ⊢
  have hv0 := hv.keep (w' := w0) (fun k hk => hb0.block k (by omega))
  have hl0 := hR0.1.lt
  refine (l01From_c B n _ w0 hv0 (by omega)).mono ?_
  rintro e w1 ⟨b, rfl, hs1, hb1⟩
  have hbl := hs1.1
  have hlt := hs1.lt
  have hR1 := hR0.below hb1 (Nat.le_refl _)
  have hb1 := hb0.trans (hb1.mono hb0.size)
  clear hR0 hb0 hv0
  go_wp2_with fail
  refine (l13Spoil_d _ n b w1 hs1).mono ?_
  rintro e w2 ⟨p, m, v, xs, rfl, hO2, hx, hd2⟩
  obtain ⟨o, c, rfl⟩ := hO2.shape
  have hR2 := hR1.chg hd2.chg (.inl (by omega))
  obtain ⟨⟨r0, r1, r2⟩, rf⟩ := id hR2
  go_wp2_with fail
  refine bodyPost_ret (v := .agg #[.int .i64 p, .int .i64 m, .slice o xs.length c]) (by simp [results, Try.results180, go_sem, r0, r1, r2]) rfl ⟨_, _, _, xs, rfl, ?_, ?_⟩
  · exact (((hO2.low (by simp; omega) _).low (by simp; omega) _).low (by simp; omega) _).mono (by omega)
  · exact below_put (below_put (below_put (hd2.out hb1 (by omega)) (Nat.le_refl _) _) (Nat.le_refl _) _) (Nat.le_refl _) _

set_option maxHeartbeats 400000 in
set_option maxRecDepth 100000 in
theorem DrawResidueOf_d (B n : Nat) (v : Value) (w : World) (hv : RdB w B n v) (hB : B ≤ w.heap.size) :
    Calls Try.prog 83 #[v] w fun e w' => W1Dr w w' e := by
  obtain ⟨ov, cv, rfl, hmv, hcv⟩ := id hv
  clear hmv hcv
  go_enter Try.func83, Try.ntmps83
  go_wp2_with fail
  have hR0 := RB3.mk1 w (.int .i64 0) (.int .i64 0) (.slice none 0 0) 59
  have hb0 : Below w.heap.size w (w.alloc (.cells #[.int .i64 0, .int .i64 0, .slice none 0 0] 59)) := (by (repeat (first | exact Below.refl _ _ | (refine Below.setCell ?_ (by first | (simp; done) | (simp; omega) | omega) _) | (refine Below.alloc ?_ (by first | (simp; done) | (simp; omega) | omega) _) | (refine below_drewN ?_ _) | (refine Below.drew ?_))))
  generalize w.alloc (.cells #[.int .i64 0, .int .i64 0, .slice none 0 0] 59) = w0 at hR0 hb0 ⊢
  have hv0 := hv.keep (w' := w0) (fun k hk => hb0.block k (by omega))
  have hl0 := hR0.1.lt
  refine (DrawIsWitt_d B n _ w0 hv0 (by omega)).mono ?_
  rintro e w1 ⟨p, m, v, xs, rfl, hO1, hb1⟩
  obtain ⟨o, c, rfl⟩ := hO1.shape
  have hR1 := hR0.below hb1 (Nat.le_refl _)
  have hb1 := hb0.trans (hb1.mono hb0.size)
  obtain ⟨⟨r0, r1, r2⟩, rf⟩ := id hR1
  go_wp2_with fail
  refine bodyPost_ret (v := .agg #[.int .i64 p, .int .i64 m, .slice o xs.length c]) (by simp [results, Try.results83, go_sem, r0, r1, r2]) rfl ⟨_, _, _, xs, rfl, ?_, ?_⟩
  · exact (((hO1.low (by simp; omega) _).low (by simp; omega) _).low (by simp; omega) _).mono (by omega)
  · exact below_put (below_put (below_put hb1 (Nat.le_refl _) _) (Nat.le_refl _) _) (Nat.le_refl _) _

set_option maxHeartbeats 400000 in
set_option maxRecDepth 100000 in
theorem DrawPowerOfWitt_d (B n : Nat) (v : Value) (w : World) (hv : RdB w B n v) (hB : B ≤ w.heap.size) :
    Calls Try.prog 89 #[v] w fun e w' => WIDr w w' e := by
  obtain ⟨ov, cv, rfl, hmv, hcv⟩ := id hv
  clear hmv hcv
  go_enter Try.func89, Try.ntmps89
  go_wp2_with fail
  have hR0 := RB3.mk1 w (.int .i64 0) (.int .i64 0) (.slice none 0 0) 59
  have hb0 : Below w.heap.size w (w.alloc (.cells #[.int .i64 0, .int .i64 0, .slice none 0 0] 59)) := (by (repeat (first | exact Below.refl _ _ | (refine Below.setCell ?_ (by first | (simp; done) | (simp; omega) | omega) _) | (refine Below.alloc ?_ (by first | (simp; done) | (simp; omega) | omega) _) | (refine below_drewN ?_ _) | (refine Below.drew ?_))))
  generalize w.alloc (.cells #[.int .i64 0, .int .i64 0, .slice none 0 0] 59) = w0 at hR0 hb0 ⊢
  have hv0 := hv.keep (w' := w0) (fun k hk => hb0.block k (by omega))
  have hl0 := hR0.1.lt
  refine (l01From_c B n _ w0 hv0 (by omega)).mono ?_
  rintro e w1 ⟨b, rfl, hs1, hb1⟩
  have hbl := hs1.1
  have hlt := hs1.lt
  have hR1 := hR0.below hb1 (Nat.le_refl _)
  have hb1 := hb0.trans (hb1.mono hb0.size)
  clear hR0 hb0 hv0
  go_wp2_with fail
  refine (l13Spoil_d _ n b w1 hs1).mono ?_
  rintro e w2 ⟨p, m, v, xs, rfl, hO2, hx, hd2⟩
  obtain ⟨o, c, rfl⟩ := hO2.shape
  have hR2 := hR1.chg hd2.chg (.inl (by omega))
  go_wp2_with fail
  refine (pick_d _ n b _ _ [0, 1, 2, 3, 7, 1000, 1000000, 1000001, -1] _ w2 hd2.src (by omega) rfl rfl (by simp) (by simp)).mono ?_; rintro e w3 ⟨k, rfl, k0, hd3, hz3⟩; clear k0
  have hR3 := hR2.chg hd3.chg (.inl (by omega))
  have hO3 := hO2.dw hd3 hlt
  have hd3 := hd2.trans hd3
  obtain ⟨⟨r0, r1, r2⟩, rf⟩ := id hR3
  go_wp2_with fail
  refine bodyPost_ret (v := .tuple #[.agg #[.int .i64 p, .int .i64 m, .slice o xs.length c], .int .i64 k]) (by simp [results, Try.results89, go_sem, r0, r1, r2]) rfl ⟨_, _, _, xs, k, rfl, ?_, ?_⟩
  · exact (((hO3.low (by simp; omega) _).low (by simp; omega) _).low (by simp; omega) _).mono (by omega)
  · exact below_put (below_put (below_put (hd3.out hb1 (by omega)) (Nat.le_refl _) _) (Nat.le_refl _) _) (Nat.le_refl _) _

set_option maxHeartbeats 400000 in
set_option maxRecDepth 100000 in
theorem DrawIntegerWitt_d (B n : Nat) (v : Value) (w : World) (hv : RdB w B n v) (hB : B ≤ w.heap.size) :
    Calls Try.prog 92 #[v] w fun e w' => I4Dr w w' e := by
  obtain ⟨ov, cv, rfl, hmv, hcv⟩ := id hv
  clear hmv hcv
  go_enter Try.func92, Try.ntmps92
  go_wp2_with fail
  refine (l01From_c B n _ w hv hB).mono ?_
  rintro e w1 ⟨b, rfl, hs1, hb1⟩
  have hbl := hs1.1
  go_wp2_with fail
  refine (pick_d _ n b _ _ [2, 3, 5, 7, 2, 3, 4] _ w1 hs1 rfl rfl rfl (by simp) (by simp)).mono ?_
  rintro e w2 ⟨p, rfl, hp, hd2, hz2⟩
  clear hz2
  have hp : 0 ≤ p ∧ p ≤ 10 := by simp at hp; omega
  obtain ⟨p0, p1⟩ := hp
  have hpp0 := Int.mul_nonneg p0 p0
  have hpp1 : p * p ≤ 100 := by have := Int.mul_le_mul p1 p1 p0 (by omega); omega
  go_wp2_with fail
  refine (pick_d _ n b _ _ [p, p * p, 12, 10000, 10001] _ w2 hd2.src rfl rfl rfl (by simp) (by simp)).mono ?_
  rintro e w3 ⟨m, rfl, hm, hd3, hz3⟩
  clear hz3
  have hd3 := hd2.trans hd3
  go_wp2_with fail
  refine (pick_d _ n b _ _ [1, 2, 3, 4, 5, 0] _ w3 hd3.src rfl rfl rfl (by simp) (by simp)).mono ?_
  rintro e w4 ⟨k, rfl, hk, hd4, hz4⟩
  clear hz4
  have hd4 := hd3.trans hd4
  go_wp2_with fail
  refine (next_d _ n b _ w4 hd4.src).mono ?_
  rintro e w5 ⟨q, rfl, q0, q1, q2, hd5, hz5⟩
  clear hz5
  have hd5 := hd4.trans hd5
  go_wp2_with fail
  refine (pick_d _ n b _ _ [0, 1, -1, 2, p, -1000000, 1000001, q] _ w5 hd5.src rfl rfl rfl (by simp) (by simp)).mono ?_
  rintro e w6 ⟨c, rfl, hc, hd6, hz6⟩
  clear hz6
  have hd6 := hd5.trans hd6
  go_wp2_with fail
  exact bodyPost_ret (v := .tuple #[.int .i64 p, .int .i64 m, .int .i64 k, .int .i64 c]) (by simp [results, Try.results92, go_sem]) rfl ⟨p, m, k, c, rfl, hd6.out hb1 hbl⟩

set_option maxHeartbeats 400000 in
set_option maxRecDepth 100000 in
theorem DrawWittOfResidue_d (B n : Nat) (v : Value) (w : World) (hv : RdB w B n v) (hB : B ≤ w.heap.size) :
    Calls Try.prog 86 #[v] w fun e w' => I3Dr w w' e := by
  obtain ⟨ov, cv, rfl, hmv, hcv⟩ := id hv
  clear hmv hcv
  go_enter Try.func86, Try.ntmps86
  go_wp2_with fail
  refine (l01From_c B n _ w hv hB).mono ?_
  rintro e w1 ⟨b, rfl, hs1, hb1⟩
  have hbl := hs1.1
  go_wp2_with fail
  refine (pick_d _ n b _ _ [2, 3, 5, 7, 9] _ w1 hs1 rfl rfl rfl (by simp) (by simp)).mono ?_
  rintro e w2 ⟨p, rfl, hp, hd2, hz2⟩
  clear hz2 hp
  go_wp2_with fail
  refine (next_d _ n b _ w2 hd2.src).mono ?_
  rintro e w3 ⟨k, rfl, k0, k1, k2, hd3, hz3⟩
  clear hz3 k2
  have k1 := k1 (by omega)
  have hd3 := hd2.trans hd3
  go_wp2_with fail
  refine (next_d _ n b _ w3 hd3.src).mono ?_
  rintro e w4 ⟨q, rfl, q0, q1, q2, hd4, hz4⟩
  clear hz4 q2
  have q1 := q1 (by omega)
  have hd4 := hd3.trans hd4
  go_wp2_with fail
  refine (next_d _ n b _ w4 hd4.src).mono ?_
  rintro e w5 ⟨r, rfl, r0, r1, r2, hd5, hz5⟩
  clear hz5 r2
  have r1 := r1 (by omega)
  have hd5 := hd4.trans hd5
  go_wp2_with fail
  refine (pick_d _ n b _ _ [0, 1, q, r] _ w5 hd5.src rfl rfl rfl (by simp) (by simp)).mono ?_
  rintro e w6 ⟨c, rfl, hc, hd6, hz6⟩
  have hc : 0 ≤ c ∧ c ≤ 2500 := by simp at hc; omega
  obtain ⟨c0, c1⟩ := hc
  clear hz6
  have hd6 := hd5.trans hd6
  go_wp2_with fail
  refine (next_d _ n b _ w6 hd6.src).mono ?_
  rintro e w7 ⟨t, rfl, t0, t1, t2, hd7, hz7⟩
  clear hz7 t2
  have t1 := t1 (by omega)
  have hd7 := hd6.trans hd7
  go_wp2_with fail
  exact bodyPost_ret (v := .tuple #[.int .i64 p, .int .i64 (1 + k), .int .i64 (c - t / 23)]) (by simp [results, Try.results86, go_sem]) rfl ⟨_, _, _, rfl, hd7.out hb1 hbl⟩
end Go.Proofs.Ytcjinlfgeljmkaa
