/- Lemmas of SerM. -/
import Derived.Test.YtcjinlfgeljmkaaWSSerL
import Derived.Test.YtcjinlfgeljmkaaWSCopy
set_option linter.unusedSimpArgs false
set_option linter.unusedVariables false
namespace Go.Proofs.Ytcjinlfgeljmkaa
open Go.RowKit

def derL (m : Int) (xs : List Int) : List Int := mk (xs.length - 1) (fun k => ((k : Int) + 1) * at0 xs (k + 1) % m)
def derTo (m : Int) (n : Nat) (xs : List Int) (i : Nat) : List Int := mk n (fun k => if k < i then ((k : Int) + 1) * at0 xs (k + 1) % m else 0)
theorem derL_len (m : Int) (xs : List Int) : (derL m xs).length = xs.length - 1 := mk_len _ _
theorem derTo_0 (m : Int) (n : Nat) (xs : List Int) : List.replicate n (0 : Int) = derTo m n xs 0 := by
  rw [mk_zero]; exact mk_ext (fun k _ => by simp)
theorem derTo_set {m : Int} {n : Nat} {xs : List Int} {i : Nat} : (derTo m n xs i).set i (((i : Int) + 1) * at0 xs (i + 1) % m) = derTo m n xs (i + 1) := by
  unfold derTo
  rw [mk_set]
  refine mk_ext fun k hk => ?_
  by_cases h : k = i
  · subst h; simp
  · rw [if_neg h]
    by_cases h1 : k < i
    · rw [if_pos h1, if_pos (by omega)]
    · rw [if_neg h1, if_neg (by omega)]
theorem derTo_all {m : Int} {xs : List Int} {n : Nat} (h : n = xs.length - 1) : derTo m n xs n = derL m xs := by
  subst h; exact mk_ext fun k hk => by rw [if_pos hk]
theorem derL_range {m : Int} (hm : 0 < m) {xs : List Int} : ∀ x ∈ derL m xs, 0 ≤ x ∧ x < m := by
  intro x hx
  obtain ⟨k, _, rfl⟩ := mem_mk hx
  exact mod_lt' hm

set_option maxHeartbeats 2000000 in
set_option maxRecDepth 100000 in
theorem derived_c (m : Int) (n N : Nat) (v : Value) (xs : List Int) (w : World) (hv : RdI w v xs) (hl : xs.length = N) (hN : N = n + 1) (h1 : 1 ≤ n) (hn : n ≤ 1000) (hm : 2 ≤ m) (hm' : m ≤ 10000) (hx : ∀ x ∈ xs, 0 ≤ x ∧ x < m) :
    Calls Try.prog 128 #[.agg #[.int .i64 m, v]] w fun e w' => SVEnd w w' m (derL m xs) e := by
  obtain ⟨o, c, rfl, hmx, -⟩ := id hv
  have hml := hmx.1
  unfold maxLen at hmx
  obtain ⟨bx, fx, rfl, -⟩ := hv.cells (by omega)
  have HL := Lib.hid (show xs.length = n + 1 by omega)
  rw [hl] at hv hmx hml ⊢
  have b1 : n + 1 ≤ N := by omega
  have b2 : N ≤ n + 1 := by omega
  clear hl hN
  go_enter Try.func128, Try.ntmps128
  go_wp2_with fail
  (have X0 := ((RB2.mk1 w  (.int .i64 m) (.slice (some ⟨bx, fx, none⟩) N c) 26).1).below (w' := ((w.alloc (.cells #[.int .i64 m, .slice (some ⟨bx, fx, none⟩) N c] 26)).alloc (.cells #[.int .i64 0, .slice none 0 0] 26))) (by (repeat (first | exact Below.refl _ _ | (refine Below.setCell ?_ (by first | (simp; done) | (simp; omega) | omega) _) | (refine Below.alloc ?_ (by first | (simp; done) | (simp; omega) | omega) _) | (refine below_drewN ?_ _) | (refine Below.drew ?_)))) (Nat.le_refl _); have R0 := ((RB2.mk2 w (.cells #[.int .i64 m, .slice (some ⟨bx, fx, none⟩) N c] 26) (.int .i64 0) (.slice none 0 0) 26)).below (w' := ((w.alloc (.cells #[.int .i64 m, .slice (some ⟨bx, fx, none⟩) N c] 26)).alloc (.cells #[.int .i64 0, .slice none 0 0] 26))) (by (repeat (first | exact Below.refl _ _ | (refine Below.setCell ?_ (by first | (simp; done) | (simp; omega) | omega) _) | (refine Below.alloc ?_ (by first | (simp; done) | (simp; omega) | omega) _) | (refine below_drewN ?_ _) | (refine Below.drew ?_)))) (Nat.le_refl _); have B0 : Below w.heap.size w ((w.alloc (.cells #[.int .i64 m, .slice (some ⟨bx, fx, none⟩) N c] 26)).alloc (.cells #[.int .i64 0, .slice none 0 0] 26)) := (by (repeat (first | exact Below.refl _ _ | (refine Below.setCell ?_ (by first | (simp; done) | (simp; omega) | omega) _) | (refine Below.alloc ?_ (by first | (simp; done) | (simp; omega) | omega) _) | (refine below_drewN ?_ _) | (refine Below.drew ?_)))); have hv0 := hv.below (w' := ((w.alloc (.cells #[.int .i64 m, .slice (some ⟨bx, fx, none⟩) N c] 26)).alloc (.cells #[.int .i64 0, .slice none 0 0] 26))) (by (repeat (first | exact Below.refl _ _ | (refine Below.setCell ?_ (by first | (simp; done) | (simp; omega) | omega) _) | (refine Below.alloc ?_ (by first | (simp; done) | (simp; omega) | omega) _) | (refine below_drewN ?_ _) | (refine Below.drew ?_)))) (Nat.le_refl _); generalize (w.alloc (.cells #[.int .i64 m, .slice (some ⟨bx, fx, none⟩) N c] 26)).alloc (.cells #[.int .i64 0, .slice none 0 0] 26) = w0 at X0 R0 B0 hv0 ⊢)
  have hzl : w.heap.size + 1 < w0.heap.size := R0.1.lt
  go_cut [3] (fun sb u => ∃ (wz : World) (b : Nat) (oz : Option Addr) (cz : Nat), wz = u ∧ sb = .pointer (some ⟨b, 0, none⟩) ∧ w0.heap.size ≤ b ∧ RB2 u b (.int .i64 m) (.slice oz n cz) ∧ OwI u w0.heap.size (.slice oz n cz) (List.replicate n 0) ∧ (∀ k, (Value.slice oz n cz).ownBlock = some k → k ≠ b) ∧ Below w0.heap.size w0 u)
  case first =>
    have hd0 : Below w0.heap.size w0 w0.drew := (Below.refl _ _).drew
    have hsd0 := hd0.size
    have hlb_X0 := X0.lt
    have e1 : IntKind.i64.wrap ((N : Int) - 1 - 1) = (n : Int) - 1 := by rw [IntWalk.i64_in _ (by omega)]; omega
    obtain ⟨q0_X0_0, q0_X0_1⟩ := X0.below (Below.refl w0.heap.size w0) (Nat.le_refl _)
    have hne0_X0 : w0.heap.size ≠ w.heap.size := by omega
    go_region_held3 (fun w' => w'.cell? ⟨w.heap.size, 0, none⟩ = some (.int .i64 m) ∧ w'.cell? ⟨w.heap.size, 1, none⟩ = some (.slice (some ⟨bx, fx, none⟩) N c)) (go_keep)
      (first
        | (go_at_call 108; refine (degreeS_c m (some ⟨bx, fx, none⟩) N c _ hml).mono ?_; rintro e wd1 ⟨rfl, hbd1⟩; have hd1 : Below w0.heap.size w0 wd1 := (by (repeat (first | exact Below.refl _ _ | (refine Below.setCell ?_ (by first | (simp; done) | (simp; omega) | omega) _) | (refine Below.alloc ?_ (by first | (simp; done) | (simp; omega) | omega) _) | (refine below_drewN ?_ _) | (refine Below.drew ?_) | (refine Below.trans ?_ (Below.mono hbd1 (by first | (simp; done) | (simp; omega) | omega)))))); have hsd1 := hd1.size; have hsz1_ := hbd1.size; (try simp at hsz1_); obtain ⟨q1_X0_0, q1_X0_1⟩ := X0.below hd1 (Nat.le_refl _); have hne1_X0 : wd1.heap.size ≠ w.heap.size := (by omega); (try (have RZ := RZ.below hbd1 (Nat.le_refl _))); (try (have RZ := (show RB2 (w0.alloc (.cells #[.int .i64 0, .slice none 0 0] 26)).drew w0.heap.size (.int .i64 0) (.slice none 0 0) from RB2.mk1 w0 (.int .i64 0) (.slice none 0 0) _).below hbd1 (Nat.le_refl _))); (try (obtain ⟨⟨z1_0, z1_1⟩, zf1⟩ := id RZ)))
        | (go_at_call 204; refine (zero_c m ((n : Int) - 1) n _ (by omega) (by omega)).mono ?_; rintro e wd2 ⟨vz2, rfl, hod2, hbd2⟩; obtain ⟨oz, cz, rfl⟩ := hod2.shapeN (n := n) (by simp); have hd2 : Below w0.heap.size w0 wd2 := (by (repeat (first | exact Below.refl _ _ | (refine Below.setCell ?_ (by first | (simp; done) | (simp; omega) | omega) _) | (refine Below.alloc ?_ (by first | (simp; done) | (simp; omega) | omega) _) | (refine below_drewN ?_ _) | (refine Below.drew ?_) | (refine Below.trans ?_ (Below.mono hbd1 (by first | (simp; done) | (simp; omega) | omega))) | (refine Below.trans ?_ (Below.mono hbd2 (by first | (simp; done) | (simp; omega) | omega)))))); have hsd2 := hd2.size; have hsz2_ := hbd2.size; (try simp at hsz2_); obtain ⟨q2_X0_0, q2_X0_1⟩ := X0.below hd2 (Nat.le_refl _); have hne2_X0 : wd2.heap.size ≠ w.heap.size := (by omega); (try (have RZ := RZ.below hbd2 (Nat.le_refl _))); (try (have RZ := (show RB2 (wd1.alloc (.cells #[.int .i64 0, .slice none 0 0] 26)) wd1.heap.size (.int .i64 0) (.slice none 0 0) from RB2.mk1 wd1 (.int .i64 0) (.slice none 0 0) _).below hbd2 (Nat.le_refl _))); (try (obtain ⟨⟨z2_0, z2_1⟩, zf2⟩ := id RZ))))
    all_goals
      go_wp2_with fail
      go_meet
      have hL := hod2.lt
      refine ⟨_, _, oz, cz, rfl, rfl, ?_, ?_, ?_, ?_, ?_⟩
      · first | omega | (simp; done) | (simp; omega)
      · first | exact RB2.mk1 _ _ _ _ | exact RB2.put RZ _ _
      · first | exact (hod2.alloc _).mono (by first | (simp; done) | (simp; omega) | omega) | exact ((hod2.low (by first | (simp; done) | (simp; omega) | omega) _).low (by first | (simp; done) | (simp; omega) | omega) _).mono (by first | (simp; done) | (simp; omega) | omega)
      · intro k hk; have hq := hL k hk; first | omega | (simp at hq; omega)
      · (repeat (first | exact Below.refl _ _ | (refine Below.setCell ?_ (by first | (simp; done) | (simp; omega) | omega) _) | (refine Below.alloc ?_ (by first | (simp; done) | (simp; omega) | omega) _) | (refine below_drewN ?_ _) | (refine Below.drew ?_) | (refine Below.trans ?_ (Below.mono hbd1 (by first | (simp; done) | (simp; omega) | omega))) | (refine Below.trans ?_ (Below.mono hbd2 (by first | (simp; done) | (simp; omega) | omega)))))
  case rest =>
  obtain ⟨w1, b, oz, cz, rfl, rfl, hbW, O, how, hneb, hb⟩ := hcut
  (have X1 := X0.below hb (Nat.le_refl _); have R1 := R0.below hb (Nat.le_refl _); have hv1 := hv0.below hb (Nat.le_refl _); have B1 := B0.trans (hb.mono B0.size))
  rw [derTo_0 m n xs] at how
  obtain ⟨g, rfl, hgl, hgl'⟩ := how.row (by omega)
  have hgb := hneb g rfl
  clear hneb
  have B1s := B1.size
  obtain ⟨⟨z0, z1⟩, zf⟩ := id O
  go_wp2_with fail
  clear z0 z1 zf
  have lx := cell_lt (hv.cell0 (some_at0 (xs := xs) (k := 0) (by have := HL.out; omega)))
  have n1 : g ≠ w.heap.size := by omega
  have n3 : g ≠ bx := by omega
  have m0 : (m == 0) = false := by simp; omega
  have m1 : ¬ m = 0 := by omega
  go_loopw [14] (fun i wr => ∃ k : Nat, k ≤ n ∧ i = .int .i64 k ∧ OwI wr w0.heap.size (.slice (some ⟨g, 0, none⟩) n cz) (derTo m n xs k) ∧ w1.grownBy wr (some g)) (fun i _ => n - (intOf i).toNat)
  case atStart => exact ⟨0, Nat.zero_le _, rfl, how, World.grownBy.refl _ _⟩
  case round =>
    obtain ⟨k, hk, rfl, hO, hg⟩ := hrel
    have Br := below_gr B1 hg (by omega) B1s
    by_cases hlt : k < n
    · obtain ⟨x0, x1⟩ := X1.grown hg (by simp; omega)
      obtain ⟨⟨z0, z1⟩, zf⟩ := O.grown hg (by simp; omega)
      have cx := (hv.below Br (Nat.le_refl _)).cell0 (some_at0 (xs := xs) (show k + 1 < xs.length by have := HL.out; omega))
      have hxk := at0_range (by omega) hx (k + 1)
      have hc0 := hO.cell (k := k) (mk_get hlt)
      have hf0 := hO.fz k
      have Hn := Lib.hid hO
      clear hO
      have i0 : (0 : Int) ≤ (k : Int) := by omega
      have i1 : (k : Int) < (n : Int) := by omega
      have i2 : (0 : Int) ≤ (k : Int) + 1 := by omega
      have i3 : (k : Int) + 1 < (N : Int) := by omega
      have i4 : ((k : Int) + 1).toNat = k + 1 := by omega
      have i5 : (k : Int) + 1 ≤ 1000 := by omega
      have hp := Int.mul_nonneg i2 hxk.1
      have hp2 : ((k : Int) + 1) * at0 xs (k + 1) ≤ 1000 * 10000 := Int.mul_le_mul (by omega) (by omega) hxk.1 (by omega)
      have e1 : IntKind.i64.wrap ((k : Int) + 1) = (k : Int) + 1 := IntWalk.i64_in _ (by omega)
      have e2 : IntKind.i64.wrap (((k : Int) + 1) * at0 xs (k + 1)) = ((k : Int) + 1) * at0 xs (k + 1) := IntWalk.i64_in _ (by omega)
      have e3 : (((k : Int) + 1) * at0 xs (k + 1)).tmod m = ((k : Int) + 1) * at0 xs (k + 1) % m := Int.tmod_eq_emod_of_nonneg (by omega)
      have i7 : fx + ((k : Int) + 1).toNat = fx + (k + 1) := by omega
      go_wp2_with fail
      go_still_tail 16, (by kernel_rfl)
      repeat still_step
      try refine wpStill_nil ?_
      change wpList _ _ _ _ _ wr.drew
      go_wp2
      have h2 := OwI.put Hn.out k (((k : Int) + 1) * at0 xs (k + 1) % m)
      rw [derTo_set] at h2
      exact ⟨⟨k + 1, by omega, by go_num, h2, gr_drew (gr_put hg _ _)⟩, by simp [intOf]; omega⟩
    · obtain rfl : k = n := by omega
      rw [derTo_all (by have := HL.out; omega)] at hO
      obtain ⟨⟨z0, z1⟩, zf⟩ := O.grown hg (by simp; omega)
      obtain ⟨⟨r0, r1⟩, rf⟩ := R1.grown hg (by simp; omega)
      go_wp2
      refine bodyPost_ret (v := .agg #[.int .i64 m, .slice (some ⟨g, 0, none⟩) k cz]) (by simp [results, Try.results128, go_sem, r0, r1]) rfl ⟨_, rfl, ?_, ?_⟩
      · exact ((hO.low (by first | (simp; done) | (simp; omega) | omega) _).low (by first | (simp; done) | (simp; omega) | omega) _).mono (by first | (simp; done) | (simp; omega) | omega)
      · (repeat (first | exact Below.refl _ _ | (refine Below.setCell ?_ (by first | (simp; done) | (simp; omega) | omega) _) | (refine Below.alloc ?_ (by first | (simp; done) | (simp; omega) | omega) _) | (refine below_drewN ?_ _) | (refine Below.drew ?_) | (refine Below.trans ?_ (Below.mono Br (by first | (simp; done) | (simp; omega) | omega)))))

def derR (m : Int) (xs : List Int) : SR := if serB m xs then (if xs.length = 2 then SR.bad 5 else ⟨m, derL m xs, 0⟩) else SR.bad 1
set_option maxHeartbeats 1000000 in
set_option maxRecDepth 100000 in
theorem DeriveSeries_c (m : Int) (v : Value) (xs : List Int) (w : World) (hv : RdI w v xs) :
    Calls Try.prog 31 #[.agg #[.int .i64 m, v]] w fun e w' => SEnd w w' (derR m xs) e := by
  obtain ⟨o, c, rfl, hmx, -⟩ := id hv
  have hml := hmx.1
  clear hmx
  cases h1 : serB m xs
  · have hR : derR m xs = SR.bad 1 := by simp [derR, h1]
    rw [hR]
    clear hR
    go_enter Try.func31, Try.ntmps31
    go_wp2_with fail
    (have X0 := ((RB2.mk1 w  (.int .i64 m) (.slice o xs.length c) 26).1).below (w' := ((w.alloc (.cells #[.int .i64 m, .slice o xs.length c] 26)).alloc (.cells #[.int .i64 0, .slice none 0 0] 26))) (by (repeat (first | exact Below.refl _ _ | (refine Below.setCell ?_ (by first | (simp; done) | (simp; omega) | omega) _) | (refine Below.alloc ?_ (by first | (simp; done) | (simp; omega) | omega) _) | (refine below_drewN ?_ _) | (refine Below.drew ?_)))) (Nat.le_refl _); have R0 := ((RB2.mk2 w (.cells #[.int .i64 m, .slice o xs.length c] 26) (.int .i64 0) (.slice none 0 0) 26)).below (w' := ((w.alloc (.cells #[.int .i64 m, .slice o xs.length c] 26)).alloc (.cells #[.int .i64 0, .slice none 0 0] 26))) (by (repeat (first | exact Below.refl _ _ | (refine Below.setCell ?_ (by first | (simp; done) | (simp; omega) | omega) _) | (refine Below.alloc ?_ (by first | (simp; done) | (simp; omega) | omega) _) | (refine below_drewN ?_ _) | (refine Below.drew ?_)))) (Nat.le_refl _); have B0 : Below w.heap.size w ((w.alloc (.cells #[.int .i64 m, .slice o xs.length c] 26)).alloc (.cells #[.int .i64 0, .slice none 0 0] 26)) := (by (repeat (first | exact Below.refl _ _ | (refine Below.setCell ?_ (by first | (simp; done) | (simp; omega) | omega) _) | (refine Below.alloc ?_ (by first | (simp; done) | (simp; omega) | omega) _) | (refine below_drewN ?_ _) | (refine Below.drew ?_)))); have hv0 := hv.below (w' := ((w.alloc (.cells #[.int .i64 m, .slice o xs.length c] 26)).alloc (.cells #[.int .i64 0, .slice none 0 0] 26))) (by (repeat (first | exact Below.refl _ _ | (refine Below.setCell ?_ (by first | (simp; done) | (simp; omega) | omega) _) | (refine Below.alloc ?_ (by first | (simp; done) | (simp; omega) | omega) _) | (refine below_drewN ?_ _) | (refine Below.drew ?_)))) (Nat.le_refl _); generalize (w.alloc (.cells #[.int .i64 m, .slice o xs.length c] 26)).alloc (.cells #[.int .i64 0, .slice none 0 0] 26) = w0 at X0 R0 B0 hv0 ⊢)
    (obtain ⟨gqX0, gqX1⟩ := id X0; go_wp2_with fail; refine (IsSeries_c m _ xs _ hv0).mono ?_; rw [h1]; rintro e w1 ⟨rfl, hb⟩; (have X1 := X0.below hb (Nat.le_refl _); have R1 := R0.below hb (Nat.le_refl _); have hv1 := hv0.below hb (Nat.le_refl _); have B1 := B0.trans (hb.mono B0.size)); clear gqX0 gqX1; clear hb)
    (obtain ⟨⟨r0, r1⟩, rf⟩ := id R1; go_wp2; exact bodyPost_ret (v := .tuple #[.agg #[.int .i64 0, .slice none 0 0], .int .i64 1]) (by simp [results, Try.results31, go_sem, r0, r1]) rfl ⟨_, rfl, OwI.nil _ _, (by (repeat (first | exact Below.refl _ _ | (refine Below.setCell ?_ (by first | (simp; done) | (simp; omega) | omega) _) | (refine Below.alloc ?_ (by first | (simp; done) | (simp; omega) | omega) _) | (refine below_drewN ?_ _) | (refine Below.drew ?_) | (refine Below.trans ?_ (Below.mono B1 (by first | (simp; done) | (simp; omega) | omega)))))), by simp [SR.bad]⟩)
  · have hn := ser_n h1
    have hm := ser_m h1
    have hx := ser_x h1
    by_cases h2 : xs.length = 2
    · have hR : derR m xs = SR.bad 5 := by simp [derR, h1, h2]
      rw [hR]
      clear hR
      have q1 : ((xs.length : Int) - 1 == 1) = true := by simp; omega
      clear h2
      go_enter Try.func31, Try.ntmps31
      go_wp2_with fail
      (have X0 := ((RB2.mk1 w  (.int .i64 m) (.slice o xs.length c) 26).1).below (w' := ((w.alloc (.cells #[.int .i64 m, .slice o xs.length c] 26)).alloc (.cells #[.int .i64 0, .slice none 0 0] 26))) (by (repeat (first | exact Below.refl _ _ | (refine Below.setCell ?_ (by first | (simp; done) | (simp; omega) | omega) _) | (refine Below.alloc ?_ (by first | (simp; done) | (simp; omega) | omega) _) | (refine below_drewN ?_ _) | (refine Below.drew ?_)))) (Nat.le_refl _); have R0 := ((RB2.mk2 w (.cells #[.int .i64 m, .slice o xs.length c] 26) (.int .i64 0) (.slice none 0 0) 26)).below (w' := ((w.alloc (.cells #[.int .i64 m, .slice o xs.length c] 26)).alloc (.cells #[.int .i64 0, .slice none 0 0] 26))) (by (repeat (first | exact Below.refl _ _ | (refine Below.setCell ?_ (by first | (simp; done) | (simp; omega) | omega) _) | (refine Below.alloc ?_ (by first | (simp; done) | (simp; omega) | omega) _) | (refine below_drewN ?_ _) | (refine Below.drew ?_)))) (Nat.le_refl _); have B0 : Below w.heap.size w ((w.alloc (.cells #[.int .i64 m, .slice o xs.length c] 26)).alloc (.cells #[.int .i64 0, .slice none 0 0] 26)) := (by (repeat (first | exact Below.refl _ _ | (refine Below.setCell ?_ (by first | (simp; done) | (simp; omega) | omega) _) | (refine Below.alloc ?_ (by first | (simp; done) | (simp; omega) | omega) _) | (refine below_drewN ?_ _) | (refine Below.drew ?_)))); have hv0 := hv.below (w' := ((w.alloc (.cells #[.int .i64 m, .slice o xs.length c] 26)).alloc (.cells #[.int .i64 0, .slice none 0 0] 26))) (by (repeat (first | exact Below.refl _ _ | (refine Below.setCell ?_ (by first | (simp; done) | (simp; omega) | omega) _) | (refine Below.alloc ?_ (by first | (simp; done) | (simp; omega) | omega) _) | (refine below_drewN ?_ _) | (refine Below.drew ?_)))) (Nat.le_refl _); generalize (w.alloc (.cells #[.int .i64 m, .slice o xs.length c] 26)).alloc (.cells #[.int .i64 0, .slice none 0 0] 26) = w0 at X0 R0 B0 hv0 ⊢)
      (obtain ⟨gqX0, gqX1⟩ := id X0; go_wp2_with fail; refine (IsSeries_c m _ xs _ hv0).mono ?_; rw [h1]; rintro e w1 ⟨rfl, hb⟩; (have X1 := X0.below hb (Nat.le_refl _); have R1 := R0.below hb (Nat.le_refl _); have hv1 := hv0.below hb (Nat.le_refl _); have B1 := B0.trans (hb.mono B0.size)); clear gqX0 gqX1; clear hb)
      (obtain ⟨gqX0, gqX1⟩ := id X1; go_wp2_with fail; refine (degreeS_c m o xs.length c _ hml).mono ?_; skip; rintro e w2 ⟨rfl, hb⟩; (have X2 := X1.below hb (Nat.le_refl _); have R2 := R1.below hb (Nat.le_refl _); have hv2 := hv1.below hb (Nat.le_refl _); have B2 := B1.trans (hb.mono B1.size)); clear gqX0 gqX1; clear hb)
      (obtain ⟨⟨r0, r1⟩, rf⟩ := id R2; go_wp2; exact bodyPost_ret (v := .tuple #[.agg #[.int .i64 0, .slice none 0 0], .int .i64 5]) (by simp [results, Try.results31, go_sem, r0, r1]) rfl ⟨_, rfl, OwI.nil _ _, (by (repeat (first | exact Below.refl _ _ | (refine Below.setCell ?_ (by first | (simp; done) | (simp; omega) | omega) _) | (refine Below.alloc ?_ (by first | (simp; done) | (simp; omega) | omega) _) | (refine below_drewN ?_ _) | (refine Below.drew ?_) | (refine Below.trans ?_ (Below.mono B2 (by first | (simp; done) | (simp; omega) | omega)))))), by simp [SR.bad]⟩)
    · have hR : derR m xs = ⟨m, derL m xs, 0⟩ := by simp [derR, h1, h2]
      rw [hR]
      clear hR
      have q1 : ((xs.length : Int) - 1 == 1) = false := by simp; omega
      have hlen : (derL m xs).length ≤ 1048576 := by rw [derL_len]; omega
      obtain ⟨n, hN⟩ : ∃ n, xs.length = n + 1 := ⟨xs.length - 1, by omega⟩
      have n1 : 1 ≤ n := by omega
      have n2 : n ≤ 1000 := by omega
      have HN := Lib.hid hN
      have hLd : (derL m xs).length = n := by rw [derL_len]; omega
      clear hN
      go_enter Try.func31, Try.ntmps31
      go_wp2_with fail
      (have X0 := ((RB2.mk1 w  (.int .i64 m) (.slice o xs.length c) 26).1).below (w' := ((w.alloc (.cells #[.int .i64 m, .slice o xs.length c] 26)).alloc (.cells #[.int .i64 0, .slice none 0 0] 26))) (by (repeat (first | exact Below.refl _ _ | (refine Below.setCell ?_ (by first | (simp; done) | (simp; omega) | omega) _) | (refine Below.alloc ?_ (by first | (simp; done) | (simp; omega) | omega) _) | (refine below_drewN ?_ _) | (refine Below.drew ?_)))) (Nat.le_refl _); have R0 := ((RB2.mk2 w (.cells #[.int .i64 m, .slice o xs.length c] 26) (.int .i64 0) (.slice none 0 0) 26)).below (w' := ((w.alloc (.cells #[.int .i64 m, .slice o xs.length c] 26)).alloc (.cells #[.int .i64 0, .slice none 0 0] 26))) (by (repeat (first | exact Below.refl _ _ | (refine Below.setCell ?_ (by first | (simp; done) | (simp; omega) | omega) _) | (refine Below.alloc ?_ (by first | (simp; done) | (simp; omega) | omega) _) | (refine below_drewN ?_ _) | (refine Below.drew ?_)))) (Nat.le_refl _); have B0 : Below w.heap.size w ((w.alloc (.cells #[.int .i64 m, .slice o xs.length c] 26)).alloc (.cells #[.int .i64 0, .slice none 0 0] 26)) := (by (repeat (first | exact Below.refl _ _ | (refine Below.setCell ?_ (by first | (simp; done) | (simp; omega) | omega) _) | (refine Below.alloc ?_ (by first | (simp; done) | (simp; omega) | omega) _) | (refine below_drewN ?_ _) | (refine Below.drew ?_)))); have hv0 := hv.below (w' := ((w.alloc (.cells #[.int .i64 m, .slice o xs.length c] 26)).alloc (.cells #[.int .i64 0, .slice none 0 0] 26))) (by (repeat (first | exact Below.refl _ _ | (refine Below.setCell ?_ (by first | (simp; done) | (simp; omega) | omega) _) | (refine Below.alloc ?_ (by first | (simp; done) | (simp; omega) | omega) _) | (refine below_drewN ?_ _) | (refine Below.drew ?_)))) (Nat.le_refl _); generalize (w.alloc (.cells #[.int .i64 m, .slice o xs.length c] 26)).alloc (.cells #[.int .i64 0, .slice none 0 0] 26) = w0 at X0 R0 B0 hv0 ⊢)
      (obtain ⟨gqX0, gqX1⟩ := id X0; go_wp2_with fail; refine (IsSeries_c m _ xs _ hv0).mono ?_; rw [h1]; rintro e w1 ⟨rfl, hb⟩; (have X1 := X0.below hb (Nat.le_refl _); have R1 := R0.below hb (Nat.le_refl _); have hv1 := hv0.below hb (Nat.le_refl _); have B1 := B0.trans (hb.mono B0.size)); clear gqX0 gqX1; clear hb)
      (obtain ⟨gqX0, gqX1⟩ := id X1; go_wp2_with fail; refine (degreeS_c m o xs.length c _ hml).mono ?_; skip; rintro e w2 ⟨rfl, hb⟩; (have X2 := X1.below hb (Nat.le_refl _); have R2 := R1.below hb (Nat.le_refl _); have hv2 := hv1.below hb (Nat.le_refl _); have B2 := B1.trans (hb.mono B1.size)); clear gqX0 gqX1; clear hb)
      (obtain ⟨gqX0, gqX1⟩ := id X2; go_wp2_with fail; refine (derived_c m n xs.length _ xs _ hv2 rfl HN.out n1 n2 (by omega) (by omega) hx).mono ?_; rintro e w3 ⟨vR, rfl, how, hb⟩; obtain ⟨oV, cV, rfl⟩ := how.shapeN (n := n) (hLd); have hz := R2.1.lt; have hB := B2.size; (have R3 := R2.below hb (Nat.le_refl _); have B3 := B2.trans (hb.mono B2.size)); obtain ⟨⟨r0, r1⟩, rf⟩ := id R3; go_wp2; exact bodyPost_ret (v := .tuple #[.agg #[.int .i64 m, .slice oV n cV], .int .i64 0]) (by simp [results, Try.results31, go_sem, r0, r1]) rfl ⟨_, rfl, ((how.low hz _).low hz _).mono hB, (by (repeat (first | exact Below.refl _ _ | (refine Below.setCell ?_ (by first | (simp; done) | (simp; omega) | omega) _) | (refine Below.alloc ?_ (by first | (simp; done) | (simp; omega) | omega) _) | (refine below_drewN ?_ _) | (refine Below.drew ?_) | (refine Below.trans ?_ (Below.mono B3 (by first | (simp; done) | (simp; omega) | omega)))))), hlen⟩)

def cutSR (m : Int) (xs : List Int) (d : Int) : SR := if serB m xs then (if inB d 1 ((xs.length : Int) - 1) then ⟨m, xs.take (d.toNat + 1), 0⟩ else SR.bad 2) else SR.bad 1
set_option maxHeartbeats 1000000 in
set_option maxRecDepth 100000 in
theorem CutSeries_c (m d : Int) (v : Value) (xs : List Int) (w : World) (hv : RdI w v xs) :
    Calls Try.prog 32 #[.agg #[.int .i64 m, v], .int .i64 d] w fun e w' => SEnd w w' (cutSR m xs d) e := by
  obtain ⟨o, c, rfl, hmx, -⟩ := id hv
  have hml := hmx.1
  have hmc := hmx.2.1
  clear hmx
  cases h1 : serB m xs
  · have hR : cutSR m xs d = SR.bad 1 := by simp [cutSR, h1]
    rw [hR]
    clear hR
    go_enter Try.func32, Try.ntmps32
    go_wp2_with fail
    (have X0 := ((RB2.mk1 w  (.int .i64 m) (.slice o xs.length c) 26).1).below (w' := ((w.alloc (.cells #[.int .i64 m, .slice o xs.length c] 26)).alloc (.cells #[.int .i64 0, .slice none 0 0] 26))) (by (repeat (first | exact Below.refl _ _ | (refine Below.setCell ?_ (by first | (simp; done) | (simp; omega) | omega) _) | (refine Below.alloc ?_ (by first | (simp; done) | (simp; omega) | omega) _) | (refine below_drewN ?_ _) | (refine Below.drew ?_)))) (Nat.le_refl _); have R0 := ((RB2.mk2 w (.cells #[.int .i64 m, .slice o xs.length c] 26) (.int .i64 0) (.slice none 0 0) 26)).below (w' := ((w.alloc (.cells #[.int .i64 m, .slice o xs.length c] 26)).alloc (.cells #[.int .i64 0, .slice none 0 0] 26))) (by (repeat (first | exact Below.refl _ _ | (refine Below.setCell ?_ (by first | (simp; done) | (simp; omega) | omega) _) | (refine Below.alloc ?_ (by first | (simp; done) | (simp; omega) | omega) _) | (refine below_drewN ?_ _) | (refine Below.drew ?_)))) (Nat.le_refl _); have B0 : Below w.heap.size w ((w.alloc (.cells #[.int .i64 m, .slice o xs.length c] 26)).alloc (.cells #[.int .i64 0, .slice none 0 0] 26)) := (by (repeat (first | exact Below.refl _ _ | (refine Below.setCell ?_ (by first | (simp; done) | (simp; omega) | omega) _) | (refine Below.alloc ?_ (by first | (simp; done) | (simp; omega) | omega) _) | (refine below_drewN ?_ _) | (refine Below.drew ?_)))); have hv0 := hv.below (w' := ((w.alloc (.cells #[.int .i64 m, .slice o xs.length c] 26)).alloc (.cells #[.int .i64 0, .slice none 0 0] 26))) (by (repeat (first | exact Below.refl _ _ | (refine Below.setCell ?_ (by first | (simp; done) | (simp; omega) | omega) _) | (refine Below.alloc ?_ (by first | (simp; done) | (simp; omega) | omega) _) | (refine below_drewN ?_ _) | (refine Below.drew ?_)))) (Nat.le_refl _); generalize (w.alloc (.cells #[.int .i64 m, .slice o xs.length c] 26)).alloc (.cells #[.int .i64 0, .slice none 0 0] 26) = w0 at X0 R0 B0 hv0 ⊢)
    (obtain ⟨gqX0, gqX1⟩ := id X0; go_wp2_with fail; refine (IsSeries_c m _ xs _ hv0).mono ?_; rw [h1]; rintro e w1 ⟨rfl, hb⟩; (have X1 := X0.below hb (Nat.le_refl _); have R1 := R0.below hb (Nat.le_refl _); have hv1 := hv0.below hb (Nat.le_refl _); have B1 := B0.trans (hb.mono B0.size)); clear gqX0 gqX1; clear hb)
    (obtain ⟨⟨r0, r1⟩, rf⟩ := id R1; go_wp2; exact bodyPost_ret (v := .tuple #[.agg #[.int .i64 0, .slice none 0 0], .int .i64 1]) (by simp [results, Try.results32, go_sem, r0, r1]) rfl ⟨_, rfl, OwI.nil _ _, (by (repeat (first | exact Below.refl _ _ | (refine Below.setCell ?_ (by first | (simp; done) | (simp; omega) | omega) _) | (refine Below.alloc ?_ (by first | (simp; done) | (simp; omega) | omega) _) | (refine below_drewN ?_ _) | (refine Below.drew ?_) | (refine Below.trans ?_ (Below.mono B1 (by first | (simp; done) | (simp; omega) | omega)))))), by simp [SR.bad]⟩)
  · have hn := ser_n h1
    have hm := ser_m h1
    have hx := ser_x h1
    cases h2 : inB d 1 ((xs.length : Int) - 1)
    · have hR : cutSR m xs d = SR.bad 2 := by simp [cutSR, h1, h2]
      rw [hR]
      clear hR
      go_enter Try.func32, Try.ntmps32
      go_wp2_with fail
      (have X0 := ((RB2.mk1 w  (.int .i64 m) (.slice o xs.length c) 26).1).below (w' := ((w.alloc (.cells #[.int .i64 m, .slice o xs.length c] 26)).alloc (.cells #[.int .i64 0, .slice none 0 0] 26))) (by (repeat (first | exact Below.refl _ _ | (refine Below.setCell ?_ (by first | (simp; done) | (simp; omega) | omega) _) | (refine Below.alloc ?_ (by first | (simp; done) | (simp; omega) | omega) _) | (refine below_drewN ?_ _) | (refine Below.drew ?_)))) (Nat.le_refl _); have R0 := ((RB2.mk2 w (.cells #[.int .i64 m, .slice o xs.length c] 26) (.int .i64 0) (.slice none 0 0) 26)).below (w' := ((w.alloc (.cells #[.int .i64 m, .slice o xs.length c] 26)).alloc (.cells #[.int .i64 0, .slice none 0 0] 26))) (by (repeat (first | exact Below.refl _ _ | (refine Below.setCell ?_ (by first | (simp; done) | (simp; omega) | omega) _) | (refine Below.alloc ?_ (by first | (simp; done) | (simp; omega) | omega) _) | (refine below_drewN ?_ _) | (refine Below.drew ?_)))) (Nat.le_refl _); have B0 : Below w.heap.size w ((w.alloc (.cells #[.int .i64 m, .slice o xs.length c] 26)).alloc (.cells #[.int .i64 0, .slice none 0 0] 26)) := (by (repeat (first | exact Below.refl _ _ | (refine Below.setCell ?_ (by first | (simp; done) | (simp; omega) | omega) _) | (refine Below.alloc ?_ (by first | (simp; done) | (simp; omega) | omega) _) | (refine below_drewN ?_ _) | (refine Below.drew ?_)))); have hv0 := hv.below (w' := ((w.alloc (.cells #[.int .i64 m, .slice o xs.length c] 26)).alloc (.cells #[.int .i64 0, .slice none 0 0] 26))) (by (repeat (first | exact Below.refl _ _ | (refine Below.setCell ?_ (by first | (simp; done) | (simp; omega) | omega) _) | (refine Below.alloc ?_ (by first | (simp; done) | (simp; omega) | omega) _) | (refine below_drewN ?_ _) | (refine Below.drew ?_)))) (Nat.le_refl _); generalize (w.alloc (.cells #[.int .i64 m, .slice o xs.length c] 26)).alloc (.cells #[.int .i64 0, .slice none 0 0] 26) = w0 at X0 R0 B0 hv0 ⊢)
      (obtain ⟨gqX0, gqX1⟩ := id X0; go_wp2_with fail; refine (IsSeries_c m _ xs _ hv0).mono ?_; rw [h1]; rintro e w1 ⟨rfl, hb⟩; (have X1 := X0.below hb (Nat.le_refl _); have R1 := R0.below hb (Nat.le_refl _); have hv1 := hv0.below hb (Nat.le_refl _); have B1 := B0.trans (hb.mono B0.size)); clear gqX0 gqX1; clear hb)
      (obtain ⟨gqX0, gqX1⟩ := id X1; go_wp2_with fail; refine (degreeS_c m o xs.length c _ hml).mono ?_; skip; rintro e w2 ⟨rfl, hb⟩; (have X2 := X1.below hb (Nat.le_refl _); have R2 := R1.below hb (Nat.le_refl _); have hv2 := hv1.below hb (Nat.le_refl _); have B2 := B1.trans (hb.mono B1.size)); clear gqX0 gqX1; clear hb)
      go_wp2_with fail
      refine (in_c d 1 ((xs.length : Int) - 1) _).mono ?_
      rw [h2]
      rintro e w' ⟨rfl, rfl⟩
      (obtain ⟨⟨r0, r1⟩, rf⟩ := id R2; go_wp2; exact bodyPost_ret (v := .tuple #[.agg #[.int .i64 0, .slice none 0 0], .int .i64 2]) (by simp [results, Try.results32, go_sem, r0, r1]) rfl ⟨_, rfl, OwI.nil _ _, (by (repeat (first | exact Below.refl _ _ | (refine Below.setCell ?_ (by first | (simp; done) | (simp; omega) | omega) _) | (refine Below.alloc ?_ (by first | (simp; done) | (simp; omega) | omega) _) | (refine below_drewN ?_ _) | (refine Below.drew ?_) | (refine Below.trans ?_ (Below.mono B2 (by first | (simp; done) | (simp; omega) | omega)))))), by simp [SR.bad]⟩)
    · have hk := inB_t h2
      obtain ⟨D, rfl⟩ : ∃ D : Nat, d = D := ⟨d.toNat, by omega⟩
      have hR : cutSR m xs D = ⟨m, xs.take (D + 1), 0⟩ := by simp [cutSR, h1, h2]
      rw [hR]
      clear hR
      have hL : (xs.take (D + 1)).length = D + 1 := by rw [List.length_take]; omega
      have hlen : (xs.take (D + 1)).length ≤ 1048576 := by rw [hL]; omega
      obtain ⟨bx, fx, rfl, -⟩ := hv.cells (by omega)
      go_enter Try.func32, Try.ntmps32
      go_wp2_with fail
      (have X0 := ((RB2.mk1 w  (.int .i64 m) (.slice (some ⟨bx, fx, none⟩) xs.length c) 26).1).below (w' := ((w.alloc (.cells #[.int .i64 m, .slice (some ⟨bx, fx, none⟩) xs.length c] 26)).alloc (.cells #[.int .i64 0, .slice none 0 0] 26))) (by (repeat (first | exact Below.refl _ _ | (refine Below.setCell ?_ (by first | (simp; done) | (simp; omega) | omega) _) | (refine Below.alloc ?_ (by first | (simp; done) | (simp; omega) | omega) _) | (refine below_drewN ?_ _) | (refine Below.drew ?_)))) (Nat.le_refl _); have R0 := ((RB2.mk2 w (.cells #[.int .i64 m, .slice (some ⟨bx, fx, none⟩) xs.length c] 26) (.int .i64 0) (.slice none 0 0) 26)).below (w' := ((w.alloc (.cells #[.int .i64 m, .slice (some ⟨bx, fx, none⟩) xs.length c] 26)).alloc (.cells #[.int .i64 0, .slice none 0 0] 26))) (by (repeat (first | exact Below.refl _ _ | (refine Below.setCell ?_ (by first | (simp; done) | (simp; omega) | omega) _) | (refine Below.alloc ?_ (by first | (simp; done) | (simp; omega) | omega) _) | (refine below_drewN ?_ _) | (refine Below.drew ?_)))) (Nat.le_refl _); have B0 : Below w.heap.size w ((w.alloc (.cells #[.int .i64 m, .slice (some ⟨bx, fx, none⟩) xs.length c] 26)).alloc (.cells #[.int .i64 0, .slice none 0 0] 26)) := (by (repeat (first | exact Below.refl _ _ | (refine Below.setCell ?_ (by first | (simp; done) | (simp; omega) | omega) _) | (refine Below.alloc ?_ (by first | (simp; done) | (simp; omega) | omega) _) | (refine below_drewN ?_ _) | (refine Below.drew ?_)))); have hv0 := hv.below (w' := ((w.alloc (.cells #[.int .i64 m, .slice (some ⟨bx, fx, none⟩) xs.length c] 26)).alloc (.cells #[.int .i64 0, .slice none 0 0] 26))) (by (repeat (first | exact Below.refl _ _ | (refine Below.setCell ?_ (by first | (simp; done) | (simp; omega) | omega) _) | (refine Below.alloc ?_ (by first | (simp; done) | (simp; omega) | omega) _) | (refine below_drewN ?_ _) | (refine Below.drew ?_)))) (Nat.le_refl _); generalize (w.alloc (.cells #[.int .i64 m, .slice (some ⟨bx, fx, none⟩) xs.length c] 26)).alloc (.cells #[.int .i64 0, .slice none 0 0] 26) = w0 at X0 R0 B0 hv0 ⊢)
      (obtain ⟨gqX0, gqX1⟩ := id X0; go_wp2_with fail; refine (IsSeries_c m _ xs _ hv0).mono ?_; rw [h1]; rintro e w1 ⟨rfl, hb⟩; (have X1 := X0.below hb (Nat.le_refl _); have R1 := R0.below hb (Nat.le_refl _); have hv1 := hv0.below hb (Nat.le_refl _); have B1 := B0.trans (hb.mono B0.size)); clear gqX0 gqX1; clear hb)
      (obtain ⟨gqX0, gqX1⟩ := id X1; go_wp2_with fail; refine (degreeS_c m (some ⟨bx, fx, none⟩) xs.length c _ hml).mono ?_; skip; rintro e w2 ⟨rfl, hb⟩; (have X2 := X1.below hb (Nat.le_refl _); have R2 := R1.below hb (Nat.le_refl _); have hv2 := hv1.below hb (Nat.le_refl _); have B2 := B1.trans (hb.mono B1.size)); clear gqX0 gqX1; clear hb)
      go_wp2_with fail
      refine (in_c D 1 ((xs.length : Int) - 1) _).mono ?_
      rw [h2]
      rintro e w' ⟨rfl, rfl⟩
      obtain ⟨k0, k1⟩ := id X2
      have e1 : IntKind.i64.wrap ((D : Int) + 1) = (D : Int) + 1 := IntWalk.i64_in _ (by omega)
      have i1 : (0 : Int) ≤ (D : Int) + 1 := by omega
      have i2 : (D : Int) + 1 ≤ (c : Int) := by omega
      have i3 : ((D : Int) + 1).toNat = D + 1 := by omega
      have hvt := hv2.take (D + 1) (by omega)
      go_wp2_with fail
      have hd0 : Below w2.heap.size w2 w2.drew := (Below.refl _ _).drew
      have hsd0 := hd0.size
      have hrl := R2.1.lt
      have hneR_X2 : w.heap.size + 1 ≠ w.heap.size := by omega
      obtain ⟨⟨q0_R_0, q0_R_1⟩, qf0_R⟩ := R2.below (Below.refl w2.heap.size w2) (Nat.le_refl _)
      obtain ⟨q0_X2_0, q0_X2_1⟩ := X2.below (Below.refl w2.heap.size w2) (Nat.le_refl _)
      go_region_held3 (fun w' => w'.cell? ⟨w.heap.size, 0, none⟩ = some (.int .i64 m) ∧ w'.cell? ⟨w.heap.size, 1, none⟩ = some (.slice (some ⟨bx, fx, none⟩) xs.length c)) (go_keep)
        (first
          | (go_at_call 129; refine (copyOfI_c ⟨bx, fx, none⟩ (D + 1) c (xs.take (D + 1)) _ ((hvt).below (by (repeat (first | exact Below.refl _ _ | (refine Below.setCell ?_ (by first | (simp; done) | (simp; omega) | omega) _) | (refine Below.alloc ?_ (by first | (simp; done) | (simp; omega) | omega) _) | (refine below_drewN ?_ _) | (refine Below.drew ?_)))) (Nat.le_refl _)) (by omega)).mono ?_; rintro e wd1 ⟨va1, rfl, hod1, hbd1⟩; obtain ⟨oa, ca, rfl⟩ := hod1.shapeN (n := D + 1) hL; have hd1 : Below w2.heap.size w2 wd1 := (by (repeat (first | exact Below.refl _ _ | (refine Below.setCell ?_ (by first | (simp; done) | (simp; omega) | omega) _) | (refine Below.alloc ?_ (by first | (simp; done) | (simp; omega) | omega) _) | (refine below_drewN ?_ _) | (refine Below.drew ?_) | (refine Below.trans ?_ (Below.mono hbd1 (by first | (simp; done) | (simp; omega) | omega)))))); have hsd1 := hd1.size; have hsz1_ := hbd1.size; (try simp at hsz1_); obtain ⟨⟨q1_R_0, q1_R_1⟩, qf1_R⟩ := R2.below hd1 (Nat.le_refl _); obtain ⟨q1_X2_0, q1_X2_1⟩ := X2.below hd1 (Nat.le_refl _)))
      go_wp2
      refine bodyPost_ret (v := .tuple #[.agg #[.int .i64 m, .slice oa (D + 1) ca], .int .i64 0]) (by simp [results, Try.results32, go_sem, q1_R_0, q1_R_1]) rfl ⟨_, rfl, ?_, ?_, hlen⟩
      · have hbsz := B2.size
        exact ((hod1.low (by first | (simp; done) | (simp; omega) | omega) _).low (by first | (simp; done) | (simp; omega) | omega) _).mono (by first | (simp; done) | (simp; omega) | omega)
      · have hbsz := B2.size
        (repeat (first | exact Below.refl _ _ | (refine Below.setCell ?_ (by first | (simp; done) | (simp; omega) | omega) _) | (refine Below.alloc ?_ (by first | (simp; done) | (simp; omega) | omega) _) | (refine below_drewN ?_ _) | (refine Below.drew ?_) | (refine Below.trans ?_ (Below.mono hbd1 (by first | (simp; done) | (simp; omega) | omega))) | (refine Below.trans ?_ (Below.mono B2 (by first | (simp; done) | (simp; omega) | omega)))))
end Go.Proofs.Ytcjinlfgeljmkaa
