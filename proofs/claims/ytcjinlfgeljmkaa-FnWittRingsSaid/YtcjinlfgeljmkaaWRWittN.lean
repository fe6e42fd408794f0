/- Lemmas of WittN. -/
import Derived.Test.YtcjinlfgeljmkaaWROpI
import Derived.Test.YtcjinlfgeljmkaaWRG2
set_option linter.unusedSimpArgs false
set_option linter.unusedVariables false
namespace Go.Proofs.Ytcjinlfgeljmkaa
open Go.RowKit

theorem opL_FL {p : Nat} (hp : P4 p) {m : Int} (hm : 0 < m) {n : Nat} {G H : Nat → Int} (hG : ∃ x, ∀ k, k < n → gh p x k = G k) (hH : ∃ y, ∀ k, k < n → gh p y k = H k) :
    opL p m (FL p m n G) (FL p m n H) true = FL p m n (fun k => G k * H k) := by
  rw [← FL_mul hp hm hG hH]
  unfold opL
  rw [FL_len]
  exact FL_ext fun k _ => rfl
theorem neg_mod (a n : Int) : (-(a % n)) % n = (-a) % n := by
  have h := Int.emod_add_mul_ediv a n
  have : -(a % n) = -a + n * (a / n) := by omega
  rw [this, Int.add_mul_emod_self_left]
def negL (p : Nat) (m : Int) (xs : List Int) : List Int := FL p m xs.length (fun k => - gh p (at0 xs) k)
theorem negL_len (p : Nat) (m : Int) (xs : List Int) : (negL p m xs).length = xs.length := FL_len _ _ _ _
theorem negL_op {p : Nat} (hp : P4 p) {m : Int} (hm : 0 < m) (xs : List Int) (hx : ∀ x ∈ xs, 0 ≤ x ∧ x < m) : opL p m (FL p m xs.length (fun _ => -1)) xs true = negL p m xs := by
  have h := opL_FL hp hm (n := xs.length) (const_ex hp (-1) xs.length) (H := gh p (at0 xs)) ⟨at0 xs, fun k _ => rfl⟩
  rw [FL_self hp hm xs hx] at h
  rw [h]
  exact FL_ext fun k _ => by omega
def negR (p m : Int) (xs : List Int) : WR := if wittB p m xs then ⟨p, m, negL p.toNat m xs, 0⟩ else WR.bad 1

set_option maxHeartbeats 4000000 in
set_option maxRecDepth 100000 in
theorem sNegateWitt_c (p m : Int) (v : Value) (xs : List Int) (w : World) (hv : RdI w v xs) :
    Calls Try.prog 69 #[.agg #[.int .i64 p, .int .i64 m, v]] w fun e w' => WEnd w w' (negR p m xs) e := by
  obtain ⟨o, c, rfl, hmx, hh⟩ := id hv
  clear hh
  have hml := hmx.1
  unfold maxLen at hmx
  cases hs : wittB p m xs
  · have hR : negR p m xs = WR.bad 1 := by simp [negR, hs]
    rw [hR]
    go_enter Try.func69, Try.ntmps69
    go_wp2_with fail
    (have X0 := (Box3.mk' w (.int .i64 p) (.int .i64 m) (.slice o xs.length c) 59).below (w' := (w.alloc (.cells #[.int .i64 p, .int .i64 m, .slice o xs.length c] 59)).alloc (.cells #[.int .i64 0, .int .i64 0, .slice none 0 0] 59)) (by (repeat (first | exact Below.refl _ _ | (refine Below.setCell ?_ (by first | (simp; done) | (simp; omega) | omega) _) | (refine Below.alloc ?_ (by first | (simp; done) | (simp; omega) | omega) _) | (refine below_drewN ?_ _) | (refine Below.drew ?_)))) (Nat.le_refl _); have R0 := RB3.mk2 w (.cells #[.int .i64 p, .int .i64 m, .slice o xs.length c] 59) (.int .i64 0) (.int .i64 0) (.slice none 0 0) 59; have B0 : Below w.heap.size w ((w.alloc (.cells #[.int .i64 p, .int .i64 m, .slice o xs.length c] 59)).alloc (.cells #[.int .i64 0, .int .i64 0, .slice none 0 0] 59)) := (by (repeat (first | exact Below.refl _ _ | (refine Below.setCell ?_ (by first | (simp; done) | (simp; omega) | omega) _) | (refine Below.alloc ?_ (by first | (simp; done) | (simp; omega) | omega) _) | (refine below_drewN ?_ _) | (refine Below.drew ?_)))); have hv0 := hv.below (w' := (w.alloc (.cells #[.int .i64 p, .int .i64 m, .slice o xs.length c] 59)).alloc (.cells #[.int .i64 0, .int .i64 0, .slice none 0 0] 59)) (by (repeat (first | exact Below.refl _ _ | (refine Below.setCell ?_ (by first | (simp; done) | (simp; omega) | omega) _) | (refine Below.alloc ?_ (by first | (simp; done) | (simp; omega) | omega) _) | (refine below_drewN ?_ _) | (refine Below.drew ?_)))) (Nat.le_refl _); generalize (w.alloc (.cells #[.int .i64 p, .int .i64 m, .slice o xs.length c] 59)).alloc (.cells #[.int .i64 0, .int .i64 0, .slice none 0 0] 59) = w0 at X0 R0 B0 hv0 ⊢)
    refine (l13Is_c p m _ xs _ hv0).mono ?_
    rw [hs]
    rintro e w1 ⟨rfl, hb⟩
    (have R1 := R0.below hb (Nat.le_refl _); have B1 := B0.trans (hb.mono B0.size))
    obtain ⟨⟨r0, r1, r2⟩, rf⟩ := id R1
    go_wp2
    exact bodyPost_ret (v := .tuple #[.agg #[.int .i64 0, .int .i64 0, .slice none 0 0], .int .i64 1]) (by simp [results, Try.results69, go_sem, r0, r1, r2]) rfl ⟨_, rfl, OwI.nil _ _, (by (repeat (first | exact Below.refl _ _ | (refine Below.setCell ?_ (by first | (simp; done) | (simp; omega) | omega) _) | (refine Below.alloc ?_ (by first | (simp; done) | (simp; omega) | omega) _) | (refine below_drewN ?_ _) | (refine Below.drew ?_) | (refine Below.trans ?_ (Below.mono B1 (by first | (simp; done) | (simp; omega) | omega)))))), by simp [WR.bad]⟩
  · have hn := witt_len hs
    have hm := witt_m hs
    have hx := witt_x hs
    have hR : negR p m xs = ⟨p, m, negL p.toNat m xs, 0⟩ := by simp [negR, hs]
    rw [hR]
    clear hR
    obtain ⟨hp, hpe⟩ := witt_P4 hs
    generalize p.toNat = k at hp hpe ⊢
    subst hpe
    have HE := Lib.hid (negL_op hp (show 0 < m by omega) xs (fun x h => by have := hx x h; omega))
    have Hop : Hid ((negL k m xs).length = xs.length) := Lib.hid (negL_len _ _ _)
    go_enter Try.func69, Try.ntmps69
    go_wp2_with fail
    (have X0 := (Box3.mk' w (.int .i64 k) (.int .i64 m) (.slice o xs.length c) 59).below (w' := (w.alloc (.cells #[.int .i64 k, .int .i64 m, .slice o xs.length c] 59)).alloc (.cells #[.int .i64 0, .int .i64 0, .slice none 0 0] 59)) (by (repeat (first | exact Below.refl _ _ | (refine Below.setCell ?_ (by first | (simp; done) | (simp; omega) | omega) _) | (refine Below.alloc ?_ (by first | (simp; done) | (simp; omega) | omega) _) | (refine below_drewN ?_ _) | (refine Below.drew ?_)))) (Nat.le_refl _); have R0 := RB3.mk2 w (.cells #[.int .i64 k, .int .i64 m, .slice o xs.length c] 59) (.int .i64 0) (.int .i64 0) (.slice none 0 0) 59; have B0 : Below w.heap.size w ((w.alloc (.cells #[.int .i64 k, .int .i64 m, .slice o xs.length c] 59)).alloc (.cells #[.int .i64 0, .int .i64 0, .slice none 0 0] 59)) := (by (repeat (first | exact Below.refl _ _ | (refine Below.setCell ?_ (by first | (simp; done) | (simp; omega) | omega) _) | (refine Below.alloc ?_ (by first | (simp; done) | (simp; omega) | omega) _) | (refine below_drewN ?_ _) | (refine Below.drew ?_)))); have hv0 := hv.below (w' := (w.alloc (.cells #[.int .i64 k, .int .i64 m, .slice o xs.length c] 59)).alloc (.cells #[.int .i64 0, .int .i64 0, .slice none 0 0] 59)) (by (repeat (first | exact Below.refl _ _ | (refine Below.setCell ?_ (by first | (simp; done) | (simp; omega) | omega) _) | (refine Below.alloc ?_ (by first | (simp; done) | (simp; omega) | omega) _) | (refine below_drewN ?_ _) | (refine Below.drew ?_)))) (Nat.le_refl _); generalize (w.alloc (.cells #[.int .i64 k, .int .i64 m, .slice o xs.length c] 59)).alloc (.cells #[.int .i64 0, .int .i64 0, .slice none 0 0] 59) = w0 at X0 R0 B0 hv0 ⊢)
    refine (l13Is_c k m _ xs _ hv0).mono ?_
    rw [hs]
    rintro e w1 ⟨rfl, hb⟩
    (have X1 := X0.below hb (Nat.le_refl _); have R1 := R0.below hb (Nat.le_refl _); have hv1 := hv0.below hb (Nat.le_refl _); have B1 := B0.trans (hb.mono B0.size))
    have hz := R1.1.lt
    go_wp2_with fail
    go_cut [4] (fun sb u => ∃ (wz : World) (b : Nat) (oz : Option Addr) (cz : Nat), wz = u ∧ sb = .pointer (some ⟨b, 0, none⟩) ∧ w1.heap.size ≤ b ∧ RB3 u b (.int .i64 k) (.int .i64 m) (.slice oz xs.length cz) ∧ OwI u w1.heap.size (.slice oz xs.length cz) (FL k m xs.length (fun _ => -1)) ∧ (∀ k, (Value.slice oz xs.length cz).ownBlock = some k → k ≠ b) ∧ Below w1.heap.size w1 u)
    case first =>
      have hd0 : Below w1.heap.size w1 w1.drew := (Below.refl _ _).drew
      have hsd0 := hd0.size
      have hlb_X1 := X1.lt
      obtain ⟨q0_X1_0, q0_X1_1, q0_X1_2⟩ := X1.below (Below.refl w1.heap.size w1) (Nat.le_refl _)
      have hne0_X1 : w1.heap.size ≠ w.heap.size := by omega
      go_region_held3 (fun w' => w'.cell? ⟨w.heap.size, 0, none⟩ = some (.int .i64 k) ∧ w'.cell? ⟨w.heap.size, 1, none⟩ = some (.int .i64 m) ∧ w'.cell? ⟨w.heap.size, 2, none⟩ = some (.slice o xs.length c)) (go_keep)
        (first
          | (go_at_call 183; refine (l13Integer_c k m (-1) xs.length _ hp (by omega) (by omega) (by omega) (by omega) (by omega) (by omega)).mono ?_; rintro e wd1 ⟨vz1, rfl, hod1, hbd1⟩; obtain ⟨oz, cz, rfl⟩ := hod1.shapeN (n := xs.length) (FL_len _ _ _ _); have hd1 : Below w1.heap.size w1 wd1 := (by (repeat (first | exact Below.refl _ _ | (refine Below.setCell ?_ (by first | (simp; done) | (simp; omega) | omega) _) | (refine Below.alloc ?_ (by first | (simp; done) | (simp; omega) | omega) _) | (refine below_drewN ?_ _) | (refine Below.drew ?_) | (refine Below.trans ?_ (Below.mono hbd1 (by first | (simp; done) | (simp; omega) | omega)))))); have hsd1 := hd1.size; have hsz1_ := hbd1.size; (try simp at hsz1_); obtain ⟨q1_X1_0, q1_X1_1, q1_X1_2⟩ := X1.below hd1 (Nat.le_refl _); have hne1_X1 : wd1.heap.size ≠ w.heap.size := (by omega); (try (have RZ := RZ.below hbd1 (Nat.le_refl _))); (try (have RZ := (show RB3 (w1.alloc (.cells #[.int .i64 0, .int .i64 0, .slice none 0 0] 59)).drew w1.heap.size (.int .i64 0) (.int .i64 0) (.slice none 0 0) from RB3.mk1 w1 (.int .i64 0) (.int .i64 0) (.slice none 0 0) _).below hbd1 (Nat.le_refl _))); (try (obtain ⟨⟨z1_0, z1_1, z1_2⟩, zf1⟩ := id RZ)))
          | (go_at_call 182; refine (l13With_c k m _ _ _ _ _ _ _).mono ?_; rintro e wd2 ⟨rfl, hbd2⟩; have hod2 := hod1.below (w' := wd2) ((by (repeat (first | exact Below.refl _ _ | (refine Below.setCell ?_ (by first | (simp; done) | (simp; omega) | omega) _) | (refine Below.alloc ?_ (by first | (simp; done) | (simp; omega) | omega) _) | (refine below_drewN ?_ _) | (refine Below.drew ?_) | (refine Below.trans ?_ (Below.mono hbd2 (by first | (simp; done) | (simp; omega) | omega))))))); have hd2 : Below w1.heap.size w1 wd2 := (by (repeat (first | exact Below.refl _ _ | (refine Below.setCell ?_ (by first | (simp; done) | (simp; omega) | omega) _) | (refine Below.alloc ?_ (by first | (simp; done) | (simp; omega) | omega) _) | (refine below_drewN ?_ _) | (refine Below.drew ?_) | (refine Below.trans ?_ (Below.mono hbd1 (by first | (simp; done) | (simp; omega) | omega))) | (refine Below.trans ?_ (Below.mono hbd2 (by first | (simp; done) | (simp; omega) | omega)))))); have hsd2 := hd2.size; have hsz2_ := hbd2.size; (try simp at hsz2_); obtain ⟨q2_X1_0, q2_X1_1, q2_X1_2⟩ := X1.below hd2 (Nat.le_refl _); have hne2_X1 : wd2.heap.size ≠ w.heap.size := (by omega); (try (have RZ := RZ.below hbd2 (Nat.le_refl _))); (try (have RZ := (show RB3 (wd1.alloc (.cells #[.int .i64 0, .int .i64 0, .slice none 0 0] 59)) wd1.heap.size (.int .i64 0) (.int .i64 0) (.slice none 0 0) from RB3.mk1 wd1 (.int .i64 0) (.int .i64 0) (.slice none 0 0) _).below hbd2 (Nat.le_refl _))); (try (obtain ⟨⟨z2_0, z2_1, z2_2⟩, zf2⟩ := id RZ))))
      all_goals
        go_wp2_with fail
        go_meet
        have hL := hod2.lt
        refine ⟨_, _, oz, cz, rfl, rfl, ?_, ?_, ?_, ?_, ?_⟩
        · first | omega | (simp; done) | (simp; omega)
        · first | exact RB3.mk1 _ _ _ _ _ | exact RB3.put RZ _ _ _
        · first | exact (hod2.alloc _).mono (by first | (simp; done) | (simp; omega) | omega) | exact (((hod2.low (by first | (simp; done) | (simp; omega) | omega) _).low (by first | (simp; done) | (simp; omega) | omega) _).low (by first | (simp; done) | (simp; omega) | omega) _).mono (by first | (simp; done) | (simp; omega) | omega) | exact (((hod2.ne (fun k hk => by have hq := hod1.lt k hk; first | omega | (simp at hq; omega)) _).ne (fun k hk => by have hq := hod1.lt k hk; first | omega | (simp at hq; omega)) _).ne (fun k hk => by have hq := hod1.lt k hk; first | omega | (simp at hq; omega)) _).mono (by first | (simp; done) | (simp; omega) | omega)
        · intro k hk; have hq := hL k hk; first | omega | (simp at hq; omega) | (have hq := hod1.lt k hk; first | omega | (simp at hq; omega))
        · (repeat (first | exact Below.refl _ _ | (refine Below.setCell ?_ (by first | (simp; done) | (simp; omega) | omega) _) | (refine Below.alloc ?_ (by first | (simp; done) | (simp; omega) | omega) _) | (refine below_drewN ?_ _) | (refine Below.drew ?_) | (refine Below.trans ?_ (Below.mono hbd1 (by first | (simp; done) | (simp; omega) | omega))) | (refine Below.trans ?_ (Below.mono hbd2 (by first | (simp; done) | (simp; omega) | omega)))))
    case rest =>
    obtain ⟨w2, b, oz, cz, rfl, rfl, hbW, O, how, hneb, hb⟩ := hcut
    (have X2 := X1.below hb (Nat.le_refl _); have R2 := R1.below hb (Nat.le_refl _); have hv2 := hv1.below hb (Nat.le_refl _); have B2 := B1.trans (hb.mono B1.size))
    obtain ⟨k0, k1, k2⟩ := id X2
    obtain ⟨⟨z0, z1, z2⟩, zf⟩ := id O
    go_wp2_with fail
    refine (l13Do_c k m _ _ (FL k m xs.length (fun _ => -1)) xs true _ hp how.rd hv2 (by rw [FL_len]; omega) (by rw [FL_len]; omega) (by rw [FL_len]) (by omega) (by omega) (fun x h => by have := FL_range (show 0 < m by omega) x h; omega) (fun x h => by have := hx x h; omega) k m).mono ?_
    rw [HE.out]
    rintro e w3 ⟨v3, rfl, how3, hb3⟩
    obtain ⟨o3, c3, rfl⟩ := how3.shapeN (n := xs.length) Hop.out
    have hz := R2.1.lt
    have hB2 := B2.size
    (have R3 := R2.below hb3 (Nat.le_refl _); have B3 := B2.trans (hb3.mono B2.size))
    obtain ⟨⟨r0, r1, r2⟩, rf⟩ := id R3
    go_wp2
    refine bodyPost_ret (v := .tuple #[.agg #[.int .i64 k, .int .i64 m, .slice o3 xs.length c3], .int .i64 0]) (by simp [results, Try.results69, go_sem, r0, r1, r2]) rfl ⟨_, rfl, ?_, ?_, by show (negL k m xs).length ≤ 1048576; rw [Hop.out]; omega⟩
    · exact ((((how3.low hz _).low hz _).low hz _)).mono hB2
    · (repeat (first | exact Below.refl _ _ | (refine Below.setCell ?_ (by first | (simp; done) | (simp; omega) | omega) _) | (refine Below.alloc ?_ (by first | (simp; done) | (simp; omega) | omega) _) | (refine below_drewN ?_ _) | (refine Below.drew ?_) | (refine Below.trans ?_ (Below.mono B3 (by first | (simp; done) | (simp; omega) | omega)))))

set_option maxHeartbeats 4000000 in
set_option maxRecDepth 100000 in
theorem NegateWitt_c (p m : Int) (v : Value) (xs : List Int) (w : World) (hv : RdI w v xs) :
    Calls Try.prog 68 #[.agg #[.int .i64 p, .int .i64 m, v]] w fun e w' => WEnd w w' (negR p m xs) e := by
  obtain ⟨o, c, rfl, hmx, hh⟩ := id hv
  clear hh
  cases hs : wittB p m xs
  · have hR : negR p m xs = WR.bad 1 := by simp [negR, hs]
    rw [hR]
    go_enter Try.func68, Try.ntmps68
    go_wp2_with fail
    (have X0 := (Box3.mk' w (.int .i64 p) (.int .i64 m) (.slice o xs.length c) 59).below (w' := (w.alloc (.cells #[.int .i64 p, .int .i64 m, .slice o xs.length c] 59)).alloc (.cells #[.int .i64 0, .int .i64 0, .slice none 0 0] 59)) (by (repeat (first | exact Below.refl _ _ | (refine Below.setCell ?_ (by first | (simp; done) | (simp; omega) | omega) _) | (refine Below.alloc ?_ (by first | (simp; done) | (simp; omega) | omega) _) | (refine below_drewN ?_ _) | (refine Below.drew ?_)))) (Nat.le_refl _); have R0 := RB3.mk2 w (.cells #[.int .i64 p, .int .i64 m, .slice o xs.length c] 59) (.int .i64 0) (.int .i64 0) (.slice none 0 0) 59; have B0 : Below w.heap.size w ((w.alloc (.cells #[.int .i64 p, .int .i64 m, .slice o xs.length c] 59)).alloc (.cells #[.int .i64 0, .int .i64 0, .slice none 0 0] 59)) := (by (repeat (first | exact Below.refl _ _ | (refine Below.setCell ?_ (by first | (simp; done) | (simp; omega) | omega) _) | (refine Below.alloc ?_ (by first | (simp; done) | (simp; omega) | omega) _) | (refine below_drewN ?_ _) | (refine Below.drew ?_)))); have hv0 := hv.below (w' := (w.alloc (.cells #[.int .i64 p, .int .i64 m, .slice o xs.length c] 59)).alloc (.cells #[.int .i64 0, .int .i64 0, .slice none 0 0] 59)) (by (repeat (first | exact Below.refl _ _ | (refine Below.setCell ?_ (by first | (simp; done) | (simp; omega) | omega) _) | (refine Below.alloc ?_ (by first | (simp; done) | (simp; omega) | omega) _) | (refine below_drewN ?_ _) | (refine Below.drew ?_)))) (Nat.le_refl _); generalize (w.alloc (.cells #[.int .i64 p, .int .i64 m, .slice o xs.length c] 59)).alloc (.cells #[.int .i64 0, .int .i64 0, .slice none 0 0] 59) = w0 at X0 R0 B0 hv0 ⊢)
    refine (IsWitt_c p m _ xs _ hv0).mono ?_
    rw [hs]
    rintro e w1 ⟨rfl, hb⟩
    (have R1 := R0.below hb (Nat.le_refl _); have B1 := B0.trans (hb.mono B0.size))
    obtain ⟨⟨r0, r1, r2⟩, rf⟩ := id R1
    go_wp2
    exact bodyPost_ret (v := .tuple #[.agg #[.int .i64 0, .int .i64 0, .slice none 0 0], .int .i64 1]) (by simp [results, Try.results68, go_sem, r0, r1, r2]) rfl ⟨_, rfl, OwI.nil _ _, (by (repeat (first | exact Below.refl _ _ | (refine Below.setCell ?_ (by first | (simp; done) | (simp; omega) | omega) _) | (refine Below.alloc ?_ (by first | (simp; done) | (simp; omega) | omega) _) | (refine below_drewN ?_ _) | (refine Below.drew ?_) | (refine Below.trans ?_ (Below.mono B1 (by first | (simp; done) | (simp; omega) | omega)))))), by simp [WR.bad]⟩
  · have hn := witt_len hs
    have hm := witt_m hs
    have hx := witt_x hs
    have hR : negR p m xs = ⟨p, m, negL p.toNat m xs, 0⟩ := by simp [negR, hs]
    rw [hR]
    clear hR
    obtain ⟨hp, hpe⟩ := witt_P4 hs
    generalize p.toNat = k at hp hpe ⊢
    subst hpe
    have hWb := (wide_bounds hp (show 2 ≤ m by omega) (show m ≤ 10000 by omega) (show 4 ≤ 4 by omega)).2
    have HJ := Lib.hid (show _ = negL k m xs from jL_FL (f := fun a b => -a) hp (show 0 < m by omega) xs xs (G := fun j => - gh k (at0 xs) j) (by omega) (neg_ex hp _ _) (fun j _ => by show (- (_ % _)) % _ = _; exact neg_mod _ _))
    have Hop : Hid ((negL k m xs).length = xs.length) := Lib.hid (negL_len _ _ _)
    go_enter Try.func68, Try.ntmps68
    go_wp2_with fail
    (have X0 := (Box3.mk' w (.int .i64 k) (.int .i64 m) (.slice o xs.length c) 59).below (w' := (w.alloc (.cells #[.int .i64 k, .int .i64 m, .slice o xs.length c] 59)).alloc (.cells #[.int .i64 0, .int .i64 0, .slice none 0 0] 59)) (by (repeat (first | exact Below.refl _ _ | (refine Below.setCell ?_ (by first | (simp; done) | (simp; omega) | omega) _) | (refine Below.alloc ?_ (by first | (simp; done) | (simp; omega) | omega) _) | (refine below_drewN ?_ _) | (refine Below.drew ?_)))) (Nat.le_refl _); have R0 := RB3.mk2 w (.cells #[.int .i64 k, .int .i64 m, .slice o xs.length c] 59) (.int .i64 0) (.int .i64 0) (.slice none 0 0) 59; have B0 : Below w.heap.size w ((w.alloc (.cells #[.int .i64 k, .int .i64 m, .slice o xs.length c] 59)).alloc (.cells #[.int .i64 0, .int .i64 0, .slice none 0 0] 59)) := (by (repeat (first | exact Below.refl _ _ | (refine Below.setCell ?_ (by first | (simp; done) | (simp; omega) | omega) _) | (refine Below.alloc ?_ (by first | (simp; done) | (simp; omega) | omega) _) | (refine below_drewN ?_ _) | (refine Below.drew ?_)))); have hv0 := hv.below (w' := (w.alloc (.cells #[.int .i64 k, .int .i64 m, .slice o xs.length c] 59)).alloc (.cells #[.int .i64 0, .int .i64 0, .slice none 0 0] 59)) (by (repeat (first | exact Below.refl _ _ | (refine Below.setCell ?_ (by first | (simp; done) | (simp; omega) | omega) _) | (refine Below.alloc ?_ (by first | (simp; done) | (simp; omega) | omega) _) | (refine below_drewN ?_ _) | (refine Below.drew ?_)))) (Nat.le_refl _); generalize (w.alloc (.cells #[.int .i64 k, .int .i64 m, .slice o xs.length c] 59)).alloc (.cells #[.int .i64 0, .int .i64 0, .slice none 0 0] 59) = w0 at X0 R0 B0 hv0 ⊢)
    refine (IsWitt_c k m _ xs _ hv0).mono ?_
    rw [hs]
    rintro e w1 ⟨rfl, hb⟩
    (have X1 := X0.below hb (Nat.le_refl _); have R1 := R0.below hb (Nat.le_refl _); have hv1 := hv0.below hb (Nat.le_refl _); have B1 := B0.trans (hb.mono B0.size))
    obtain ⟨k0, k1, k2⟩ := id X1
    go_wp2_with fail
    refine (joined0_c 181 (fun a b => -a) k m _ _ xs xs _ hp hv1 hv1 (by omega) rfl (by omega) (by omega) (fun x h => by have := hx x h; omega) (fun x h => by have := hx x h; omega) opNegate_callable (fun a b h1 h2 h3 h4 => by omega) (fun a b w1 h1 h2 h3 h4 _ => opNegate_c a b w1 (by omega) (by omega))).mono ?_
    rw [HJ.out]
    rintro e w2 ⟨v2, rfl, how, hb2⟩
    obtain ⟨o2, c2, rfl⟩ := how.shapeN (n := xs.length) Hop.out
    have hz := R1.1.lt
    have hB1 := B1.size
    (have R2 := R1.below hb2 (Nat.le_refl _); have B2 := B1.trans (hb2.mono B1.size))
    obtain ⟨⟨r0, r1, r2⟩, rf⟩ := id R2
    go_wp2
    refine bodyPost_ret (v := .tuple #[.agg #[.int .i64 k, .int .i64 m, .slice o2 xs.length c2], .int .i64 0]) (by simp [results, Try.results68, go_sem, r0, r1, r2]) rfl ⟨_, rfl, ?_, ?_, by show (negL k m xs).length ≤ 1048576; rw [Hop.out]; omega⟩
    · exact ((((how.low hz _).low hz _).low hz _)).mono hB1
    · (repeat (first | exact Below.refl _ _ | (refine Below.setCell ?_ (by first | (simp; done) | (simp; omega) | omega) _) | (refine Below.alloc ?_ (by first | (simp; done) | (simp; omega) | omega) _) | (refine below_drewN ?_ _) | (refine Below.drew ?_) | (refine Below.trans ?_ (Below.mono B2 (by first | (simp; done) | (simp; omega) | omega)))))

end Go.Proofs.Ytcjinlfgeljmkaa
