/- Lemmas of WittP. -/
import Derived.Test.YtcjinlfgeljmkaaWSWittG
import Derived.Test.YtcjinlfgeljmkaaWSG2
set_option linter.unusedSimpArgs false
set_option linter.unusedVariables false
namespace Go.Proofs.Ytcjinlfgeljmkaa
open Go.RowKit

def powWL (p : Nat) (m : Int) (xs : List Int) (e : Nat) : List Int := FL p m xs.length (fun k => gh p (at0 xs) k ^ e)
theorem powWL_len (p : Nat) (m : Int) (xs : List Int) (e : Nat) : (powWL p m xs e).length = xs.length := FL_len _ _ _ _

set_option maxHeartbeats 8000000 in
set_option maxRecDepth 100000 in
theorem l13Times_c (p : Nat) (m : Int) (v : Value) (xs : List Int) (e : Nat) (n : Nat) (w : World) (hp : P4 p) (hv : RdI w v xs) (hn : xs.length = n) (h1 : 1 ≤ n) (h4 : n ≤ 4) (hm : 2 ≤ m) (hm' : m ≤ 10000)
    (hx : ∀ x ∈ xs, 0 ≤ x ∧ x < m) (he : e ≤ 1000000000000) :
    Calls Try.prog 198 #[.agg #[.int .i64 p, .int .i64 m, v], .int .i64 e] w fun x w' => VEnd w w' p m (powWL p m xs e) x := by
  have HS := Lib.hid (FL_self hp (show 0 < m by omega) xs hx)
  obtain ⟨o, c, rfl, hmx, -⟩ := id hv
  unfold powWL
  rw [hn] at HS hmx ⊢
  have hv' : RdI w (.slice o n c) (FL p m n (gh p (at0 xs))) := by rw [HS.out]; rw [hn] at hv; exact hv
  clear hv
  unfold maxLen at hmx
  go_enter Try.func198, Try.ntmps198
  go_wp2_with fail
  (have RX0 := ((RB3.mk1 w  (.int .i64 p) (.int .i64 m) (.slice o n c) 59)).below (w' := ((w.alloc (.cells #[.int .i64 p, .int .i64 m, .slice o n c] 59)).alloc (.cells #[.int .i64 0, .int .i64 0, .slice none 0 0] 59))) (by (repeat (first | exact Below.refl _ _ | (refine Below.setCell ?_ (by first | (simp; done) | (simp; omega) | omega) _) | (refine Below.alloc ?_ (by first | (simp; done) | (simp; omega) | omega) _) | (refine below_drewN ?_ _) | (refine Below.drew ?_)))) (Nat.le_refl _); have R0 := ((RB3.mk2 w (.cells #[.int .i64 p, .int .i64 m, .slice o n c] 59) (.int .i64 0) (.int .i64 0) (.slice none 0 0) 59)).below (w' := ((w.alloc (.cells #[.int .i64 p, .int .i64 m, .slice o n c] 59)).alloc (.cells #[.int .i64 0, .int .i64 0, .slice none 0 0] 59))) (by (repeat (first | exact Below.refl _ _ | (refine Below.setCell ?_ (by first | (simp; done) | (simp; omega) | omega) _) | (refine Below.alloc ?_ (by first | (simp; done) | (simp; omega) | omega) _) | (refine below_drewN ?_ _) | (refine Below.drew ?_)))) (Nat.le_refl _); have B0 : Below w.heap.size w ((w.alloc (.cells #[.int .i64 p, .int .i64 m, .slice o n c] 59)).alloc (.cells #[.int .i64 0, .int .i64 0, .slice none 0 0] 59)) := (by (repeat (first | exact Below.refl _ _ | (refine Below.setCell ?_ (by first | (simp; done) | (simp; omega) | omega) _) | (refine Below.alloc ?_ (by first | (simp; done) | (simp; omega) | omega) _) | (refine below_drewN ?_ _) | (refine Below.drew ?_)))); have hv'0 := hv'.below (w' := ((w.alloc (.cells #[.int .i64 p, .int .i64 m, .slice o n c] 59)).alloc (.cells #[.int .i64 0, .int .i64 0, .slice none 0 0] 59))) (by (repeat (first | exact Below.refl _ _ | (refine Below.setCell ?_ (by first | (simp; done) | (simp; omega) | omega) _) | (refine Below.alloc ?_ (by first | (simp; done) | (simp; omega) | omega) _) | (refine below_drewN ?_ _) | (refine Below.drew ?_)))) (Nat.le_refl _); generalize (w.alloc (.cells #[.int .i64 p, .int .i64 m, .slice o n c] 59)).alloc (.cells #[.int .i64 0, .int .i64 0, .slice none 0 0] 59) = w0 at RX0 R0 B0 hv'0 ⊢)
  have X0 := RX0.1
  have hzl : w.heap.size + 1 < w0.heap.size := R0.1.lt
  go_cut [5] (fun sb u => ∃ (wz : World) (b : Nat) (oz : Option Addr) (cz : Nat), wz = u ∧ sb = .pointer (some ⟨b, 0, none⟩) ∧ w0.heap.size ≤ b ∧ RB3 u b (.int .i64 p) (.int .i64 m) (.slice oz n cz) ∧ OwI u w0.heap.size (.slice oz n cz) (FL p m n (fun _ => 1)) ∧ (∀ k, (Value.slice oz n cz).ownBlock = some k → k ≠ b) ∧ Below w0.heap.size w0 u)
  case first =>
    have hd0 : Below w0.heap.size w0 w0.drew := (Below.refl _ _).drew
    have hsd0 := hd0.size
    have hlb_X0 := X0.lt
    obtain ⟨q0_X0_0, q0_X0_1, q0_X0_2⟩ := X0.below (Below.refl w0.heap.size w0) (Nat.le_refl _)
    have hne0_X0 : w0.heap.size ≠ w.heap.size := by omega
    go_region_held3 (fun w' => w'.cell? ⟨w.heap.size, 0, none⟩ = some (.int .i64 p) ∧ w'.cell? ⟨w.heap.size, 1, none⟩ = some (.int .i64 m) ∧ w'.cell? ⟨w.heap.size, 2, none⟩ = some (.slice o n c)) (go_keep)
      (first
        | (go_at_call 183; refine (l13Integer_c p m 1 n _ hp (by omega) (by omega) (by omega) (by omega) (by omega) (by omega)).mono ?_; rintro e wd1 ⟨vz1, rfl, hod1, hbd1⟩; obtain ⟨oz, cz, rfl⟩ := hod1.shapeN (n := n) (FL_len _ _ _ _); have hd1 : Below w0.heap.size w0 wd1 := (by (repeat (first | exact Below.refl _ _ | (refine Below.setCell ?_ (by first | (simp; done) | (simp; omega) | omega) _) | (refine Below.alloc ?_ (by first | (simp; done) | (simp; omega) | omega) _) | (refine below_drewN ?_ _) | (refine Below.drew ?_) | (refine Below.trans ?_ (Below.mono hbd1 (by first | (simp; done) | (simp; omega) | omega)))))); have hsd1 := hd1.size; have hsz1_ := hbd1.size; (try simp at hsz1_); obtain ⟨q1_X0_0, q1_X0_1, q1_X0_2⟩ := X0.below hd1 (Nat.le_refl _); have hne1_X0 : wd1.heap.size ≠ w.heap.size := (by omega); (try (have RZ := RZ.below hbd1 (Nat.le_refl _))); (try (have RZ := (show RB3 (w0.alloc (.cells #[.int .i64 0, .int .i64 0, .slice none 0 0] 59)).drew w0.heap.size (.int .i64 0) (.int .i64 0) (.slice none 0 0) from RB3.mk1 w0 (.int .i64 0) (.int .i64 0) (.slice none 0 0) _).below hbd1 (Nat.le_refl _))); (try (obtain ⟨⟨z1_0, z1_1, z1_2⟩, zf1⟩ := id RZ)))
        | (go_at_call 182; refine (l13With_c p m _ _ _ _ _ _ _).mono ?_; rintro e wd2 ⟨rfl, hbd2⟩; have hod2 := hod1.below (w' := wd2) ((by (repeat (first | exact Below.refl _ _ | (refine Below.setCell ?_ (by first | (simp; done) | (simp; omega) | omega) _) | (refine Below.alloc ?_ (by first | (simp; done) | (simp; omega) | omega) _) | (refine below_drewN ?_ _) | (refine Below.drew ?_) | (refine Below.trans ?_ (Below.mono hbd2 (by first | (simp; done) | (simp; omega) | omega))))))); have hd2 : Below w0.heap.size w0 wd2 := (by (repeat (first | exact Below.refl _ _ | (refine Below.setCell ?_ (by first | (simp; done) | (simp; omega) | omega) _) | (refine Below.alloc ?_ (by first | (simp; done) | (simp; omega) | omega) _) | (refine below_drewN ?_ _) | (refine Below.drew ?_) | (refine Below.trans ?_ (Below.mono hbd1 (by first | (simp; done) | (simp; omega) | omega))) | (refine Below.trans ?_ (Below.mono hbd2 (by first | (simp; done) | (simp; omega) | omega)))))); have hsd2 := hd2.size; have hsz2_ := hbd2.size; (try simp at hsz2_); obtain ⟨q2_X0_0, q2_X0_1, q2_X0_2⟩ := X0.below hd2 (Nat.le_refl _); have hne2_X0 : wd2.heap.size ≠ w.heap.size := (by omega); (try (have RZ := RZ.below hbd2 (Nat.le_refl _))); (try (have RZ := (show RB3 (wd1.alloc (.cells #[.int .i64 0, .int .i64 0, .slice none 0 0] 59)) wd1.heap.size (.int .i64 0) (.int .i64 0) (.slice none 0 0) from RB3.mk1 wd1 (.int .i64 0) (.int .i64 0) (.slice none 0 0) _).below hbd2 (Nat.le_refl _))); (try (obtain ⟨⟨z2_0, z2_1, z2_2⟩, zf2⟩ := id RZ))))
    all_goals
      go_wp2_with fail
      go_meet
      have hL := hod2.lt
      refine ⟨_, _, oz, cz, rfl, rfl, ?_, ?_, ?_, ?_, ?_⟩
      · first | omega | (simp; done) | (simp; omega)
      · first | exact RB3.mk1 _ _ _ _ _ | exact RB3.put RZ _ _ _
      · first | exact (hod2.alloc _).mono (by first | (simp; done) | (simp; omega) | omega) | exact (((hod2.low (by first | (simp; done) | (simp; omega) | omega) _).low (by first | (simp; done) | (simp; omega) | omega) _).low (by first | (simp; done) | (simp; omega) | omega) _).mono (by first | (simp; done) | (simp; omega) | omega) | exact (((hod2.ne (fun k hk => by have hq := hod1.lt k hk; first | omega | (simp at hq; omega)) _).ne (fun k hk => by have hq := hod1.lt k hk; first | omega | (simp at hq; omega)) _).ne (fun k hk => by have hq := hod1.lt k hk; first | omega | (simp at hq; omega)) _).mono (by first | (simp; done) | (simp; omega) | omega)
      · intro k hk; have hq := hL k hk; first | omega | (simp at hq; omega) | (have hq := hod1.lt k hk; first | omega | (simp at hq; omega))
      · (repeat (first | exact Below.refl _ _ | (refine Below.setCell ?_ (by first | (simp; done) | (simp; omega) | omega) _) | (refine Below.alloc ?_ (by first | (simp; done) | (simp; omega) | omega) _) | (refine below_drewN ?_ _) | (refine Below.drew ?_) | (refine Below.trans ?_ (Below.mono hbd1 (by first | (simp; done) | (simp; omega) | omega))) | (refine Below.trans ?_ (Below.mono hbd2 (by first | (simp; done) | (simp; omega) | omega)))))
  case rest =>
  obtain ⟨w1, b, oz, cz, rfl, rfl, hbW, O, how, hneb, hb⟩ := hcut
  (have RX1 := RX0.below hb (Nat.le_refl _); have R1 := R0.below hb (Nat.le_refl _); have B1 := B0.trans (hb.mono B0.size))
  have hB0s := B0.size
  have H1 := ((hv'.rds).below (w' := w0) (B0)).below hb
  have hsb := hb.size
  go_wp2_with fail
  go_loopw [1] (fun t1 wr => ∃ (e' : Nat) (G H : Nat → Int) (ox : Option Addr) (cx : Nat) (oo : Option Addr) (co lo hi : Nat), t1 = .int .i64 e' ∧ e' ≤ 1000000000000 ∧ Hid ((∃ x, ∀ k, k < n → gh p x k = G k) ∧ (∃ x, ∀ k, k < n → gh p x k = H k) ∧ ∀ k, G k * H k ^ e' = gh p (at0 xs) k ^ e) ∧ Rds lo hi wr (fun u => RdI u (.slice ox n cx) (FL p m n H)) ∧ (hi ≤ w.heap.size ∨ w0.heap.size ≤ lo) ∧ (b < lo ∨ hi ≤ b) ∧ OwI wr w0.heap.size (.slice oo n co) (FL p m n G) ∧ (∀ k, (Value.slice oo n co).ownBlock = some k → k ≠ b) ∧ RB3 wr b (.int .i64 p) (.int .i64 m) (.slice oo n co) ∧ RB3 wr w.heap.size (.int .i64 p) (.int .i64 m) (.slice ox n cx) ∧ RB3 wr (w.heap.size + 1) (.int .i64 0) (.int .i64 0) (.slice none 0 0) ∧ Below w.heap.size w wr ∧ w1.heap.size ≤ wr.heap.size) (fun s _ => (intOf s).toNat)
  case atStart => exact ⟨e, (fun _ => 1), gh p (at0 xs), o, c, oz, cz, 0, w.heap.size, rfl, he, Lib.hid ⟨const_ex hp 1 n, ⟨at0 xs, fun _ _ => rfl⟩, fun k => Int.one_mul _⟩, H1, .inl (Nat.le_refl _), .inr (by omega), how, hneb, O, RX1, R1, B1, Nat.le_refl _⟩
  case round =>
    obtain ⟨e', G, H, ox, cx, oo, co, lo, hi, rfl, hle, HP, hH, hl1, hl2, hG, hne, hO, hX, hR, hB, hsz⟩ := hrel
    have hlb := O.1.lt
    by_cases h0 : 0 < e'
    · rcases Nat.mod_two_eq_zero_or_one e' with hq | hq
      · have hbb : (((e' : Int) % 2) == 1) = false := by simp; omega
        have Hp := Lib.hid hq
        clear hq
        obtain ⟨⟨k0, k1, k2⟩, kf⟩ := id hX
        go_wp2_with fail
        · clear k0 k1 k2 kf
          have hxb2 : ∀ x ∈ FL p m n H, 0 ≤ x ∧ x ≤ 9000000000000000000 := fun x h => by have := FL_range (show 0 < m by omega) x h; omega
          refine (l13Do_c p m _ _ (FL p m n H) (FL p m n H) true _ hp hH.now hH.now (by rw [FL_len]; omega) (by rw [FL_len]; omega) rfl hm hm' hxb2 hxb2 p m).mono ?_
          rw [opL_FL hp (by omega) HP.out.2.1 HP.out.2.1]
          rintro e w4 ⟨v4, rfl, how4, hb4⟩
          obtain ⟨o4, c4, rfl⟩ := how4.shapeN (n := n) (FL_len _ _ _ _)
          have X4 := hX.below hb4 (Nat.le_refl _)
          have O4 := hO.below hb4 (Nat.le_refl _)
          have R4 := hR.below hb4 (Nat.le_refl _)
          have G4 := hG.below hb4
          have B4 := hB.trans (hb4.mono hB.size)
          have hs4 := hb4.size
          obtain ⟨⟨x0, x1, x2⟩, xf⟩ := id X4
          go_wp2_with fail
          have X5 := RB3.put X4 (.int .i64 p) (.int .i64 m) (.slice o4 n c4)
          have O5 := ((O4.put' (a := ⟨w.heap.size, 0, none⟩) (show w.heap.size ≠ b by omega) (.int .i64 p)).put' (a := ⟨w.heap.size, 1, none⟩) (show w.heap.size ≠ b by omega) (.int .i64 m)).put' (a := ⟨w.heap.size, 2, none⟩) (show w.heap.size ≠ b by omega) (.slice o4 n c4)
          have R5 := ((R4.put' (a := ⟨w.heap.size, 0, none⟩) (show w.heap.size ≠ w.heap.size + 1 by omega) (.int .i64 p)).put' (a := ⟨w.heap.size, 1, none⟩) (show w.heap.size ≠ w.heap.size + 1 by omega) (.int .i64 m)).put' (a := ⟨w.heap.size, 2, none⟩) (show w.heap.size ≠ w.heap.size + 1 by omega) (.slice o4 n c4)
          have G5 := ((G4.low (a := ⟨w.heap.size, 0, none⟩) (show w.heap.size < w0.heap.size by omega) (.int .i64 p)).low (a := ⟨w.heap.size, 1, none⟩) (show w.heap.size < w0.heap.size by omega) (.int .i64 m)).low (a := ⟨w.heap.size, 2, none⟩) (show w.heap.size < w0.heap.size by omega) (.slice o4 n c4)
          have H5 := (((how4.rds hs4).put (b := w.heap.size) (.inl (by omega)) 0 (.int .i64 p)).put (b := w.heap.size) (.inl (by omega)) 1 (.int .i64 m)).put (b := w.heap.size) (.inl (by omega)) 2 (.slice o4 n c4)
          have B5 := below_put (below_put (below_put B4 (g := w.heap.size) (k := 0) (Nat.le_refl _) (.int .i64 p)) (g := w.heap.size) (k := 1) (Nat.le_refl _) (.int .i64 m)) (g := w.heap.size) (k := 2) (Nat.le_refl _) (.slice o4 n c4)
          refine ⟨⟨e' / 2, G, (fun k => H k * H k), o4, c4, oo, co, _, _, by go_num, by omega, Lib.hid ⟨HP.out.1, ?_, fun k => ?_⟩, H5, .inr (by omega), .inl (by omega), G5, hne, O5, X5, R5, B5, by simp; omega⟩, by simp [intOf]; omega⟩
          · obtain ⟨x, hx⟩ := HP.out.2.1
            obtain ⟨z, hz⟩ := mul_ex hp x x n
            exact ⟨z, fun k hk => by rw [hz k hk, hx k hk]⟩
          · rw [← HP.out.2.2 k]
            have he : e' = 2 * (e' / 2) := by have := Hp.out; omega
            conv => rhs; rw [he]
            rw [Int.pow_mul, show H k ^ 2 = H k * H k from by rw [Int.pow_succ, pow1]]
      · have hbb : (((e' : Int) % 2) == 1) = true := by simp; omega
        have Hp := Lib.hid hq
        clear hq
        obtain ⟨⟨k0, k1, k2⟩, kf⟩ := id hX
        obtain ⟨⟨z0, z1, z2⟩, zf⟩ := id hO
        go_wp2_with fail
        · clear k0 k1 k2 kf z0 z1 z2 zf
          have hxb : ∀ x ∈ FL p m n H, 0 ≤ x ∧ x ≤ 9000000000000000000 := fun x h => by have := FL_range (show 0 < m by omega) x h; omega
          have hxg : ∀ x ∈ FL p m n G, 0 ≤ x ∧ x ≤ 9000000000000000000 := fun x h => by have := FL_range (show 0 < m by omega) x h; omega
          refine (l13Do_c p m _ _ (FL p m n G) (FL p m n H) true _ hp hG.rd hH.now (by rw [FL_len]; omega) (by rw [FL_len]; omega) (by rw [FL_len, FL_len]) hm hm' hxg hxb p m).mono ?_
          rw [opL_FL hp (by omega) HP.out.1 HP.out.2.1]
          rintro e w2 ⟨v2, rfl, how2, hb2⟩
          obtain ⟨o2, c2, rfl⟩ := how2.shapeN (n := n) (FL_len _ _ _ _)
          have HE2 : Hid (∃ x, ∀ k, k < n → gh p x k = G k * H k) := Lib.hid (by
            obtain ⟨x, hx⟩ := HP.out.1
            obtain ⟨y, hy⟩ := HP.out.2.1
            obtain ⟨z, hz⟩ := mul_ex hp x y n
            exact ⟨z, fun k hk => by rw [hz k hk, hx k hk, hy k hk]⟩)
          have X2 := hX.below hb2 (Nat.le_refl _)
          have O2 := hO.below hb2 (Nat.le_refl _)
          have R2 := hR.below hb2 (Nat.le_refl _)
          have H2 := hH.below hb2
          have B2 := hB.trans (hb2.mono hB.size)
          have hs2 := hb2.size
          have hbr : b < wr.heap.size := by omega
          have hbw0 : w.heap.size ≠ b := by omega
          have hbw1 : b ≠ w.heap.size := by omega
          obtain ⟨⟨z0, z1, z2⟩, zf⟩ := id O2
          obtain ⟨⟨k0, k1, k2⟩, kf⟩ := id X2
          go_wp2_with fail
          clear z0 z1 z2 zf k0 k1 k2 kf
          have hne3 : ∀ k, (Value.slice o2 n c2).ownBlock = some k → k ≠ b := fun k hk => by have := (how2.lt k hk).1; omega
          have G3 := (((how2.low (a := ⟨b, 0, none⟩) hbr (.int .i64 p)).low (a := ⟨b, 1, none⟩) hbr (.int .i64 m)).low (a := ⟨b, 2, none⟩) hbr (.slice o2 n c2)).mono (show w0.heap.size ≤ wr.heap.size by omega)
          have O3 := RB3.put O2 (.int .i64 p) (.int .i64 m) (.slice o2 n c2)
          have X3 := ((X2.put' (a := ⟨b, 0, none⟩) hbw1 (.int .i64 p)).put' (a := ⟨b, 1, none⟩) hbw1 (.int .i64 m)).put' (a := ⟨b, 2, none⟩) hbw1 (.slice o2 n c2)
          have R3 := ((R2.put' (a := ⟨b, 0, none⟩) (show b ≠ w.heap.size + 1 by omega) (.int .i64 p)).put' (a := ⟨b, 1, none⟩) (show b ≠ w.heap.size + 1 by omega) (.int .i64 m)).put' (a := ⟨b, 2, none⟩) (show b ≠ w.heap.size + 1 by omega) (.slice o2 n c2)
          have H3 := ((H2.put hl2 0 (.int .i64 p)).put hl2 1 (.int .i64 m)).put hl2 2 (.slice o2 n c2)
          have B3 := below_put (below_put (below_put B2 (g := b) (k := 0) (by omega) (.int .i64 p)) (g := b) (k := 1) (by omega) (.int .i64 m)) (g := b) (k := 2) (by omega) (.slice o2 n c2)
          have hs3 : w2.heap.size = (((w2.setCell ⟨b, 0, none⟩ (.int .i64 p)).setCell ⟨b, 1, none⟩ (.int .i64 m)).setCell ⟨b, 2, none⟩ (.slice o2 n c2)).heap.size := by simp
          generalize ((w2.setCell ⟨b, 0, none⟩ (.int .i64 p)).setCell ⟨b, 1, none⟩ (.int .i64 m)).setCell ⟨b, 2, none⟩ (.slice o2 n c2) = w3 at G3 O3 X3 R3 H3 B3 hs3 ⊢
          have hxb2 : ∀ x ∈ FL p m n H, 0 ≤ x ∧ x ≤ 9000000000000000000 := fun x h => by have := FL_range (show 0 < m by omega) x h; omega
          refine (l13Do_c p m _ _ (FL p m n H) (FL p m n H) true _ hp H3.now H3.now (by rw [FL_len]; omega) (by rw [FL_len]; omega) rfl hm hm' hxb2 hxb2 p m).mono ?_
          rw [opL_FL hp (by omega) HP.out.2.1 HP.out.2.1]
          rintro e w4 ⟨v4, rfl, how4, hb4⟩
          obtain ⟨o4, c4, rfl⟩ := how4.shapeN (n := n) (FL_len _ _ _ _)
          have X4 := X3.below hb4 (Nat.le_refl _)
          have O4 := O3.below hb4 (Nat.le_refl _)
          have R4 := R3.below hb4 (Nat.le_refl _)
          have G4 := G3.below hb4
          have B4 := B3.trans (hb4.mono B3.size)
          have hs4 := hb4.size
          obtain ⟨⟨x0, x1, x2⟩, xf⟩ := id X4
          go_wp2_with fail
          have X5 := RB3.put X4 (.int .i64 p) (.int .i64 m) (.slice o4 n c4)
          have O5 := ((O4.put' (a := ⟨w.heap.size, 0, none⟩) (show w.heap.size ≠ b by omega) (.int .i64 p)).put' (a := ⟨w.heap.size, 1, none⟩) (show w.heap.size ≠ b by omega) (.int .i64 m)).put' (a := ⟨w.heap.size, 2, none⟩) (show w.heap.size ≠ b by omega) (.slice o4 n c4)
          have R5 := ((R4.put' (a := ⟨w.heap.size, 0, none⟩) (show w.heap.size ≠ w.heap.size + 1 by omega) (.int .i64 p)).put' (a := ⟨w.heap.size, 1, none⟩) (show w.heap.size ≠ w.heap.size + 1 by omega) (.int .i64 m)).put' (a := ⟨w.heap.size, 2, none⟩) (show w.heap.size ≠ w.heap.size + 1 by omega) (.slice o4 n c4)
          have G5 := ((G4.low (a := ⟨w.heap.size, 0, none⟩) (show w.heap.size < w0.heap.size by omega) (.int .i64 p)).low (a := ⟨w.heap.size, 1, none⟩) (show w.heap.size < w0.heap.size by omega) (.int .i64 m)).low (a := ⟨w.heap.size, 2, none⟩) (show w.heap.size < w0.heap.size by omega) (.slice o4 n c4)
          have H5 := (((how4.rds hs4).put (b := w.heap.size) (.inl (by omega)) 0 (.int .i64 p)).put (b := w.heap.size) (.inl (by omega)) 1 (.int .i64 m)).put (b := w.heap.size) (.inl (by omega)) 2 (.slice o4 n c4)
          have B5 := below_put (below_put (below_put B4 (g := w.heap.size) (k := 0) (Nat.le_refl _) (.int .i64 p)) (g := w.heap.size) (k := 1) (Nat.le_refl _) (.int .i64 m)) (g := w.heap.size) (k := 2) (Nat.le_refl _) (.slice o4 n c4)
          refine ⟨⟨e' / 2, (fun k => G k * H k), (fun k => H k * H k), o4, c4, o2, c2, _, _, by go_num, by omega, Lib.hid ⟨HE2.out, ?_, fun k => ?_⟩, H5, .inr (by omega), .inl (by omega), G5, hne3, O5, X5, R5, B5, by simp; omega⟩, by simp [intOf]; omega⟩
          · obtain ⟨x, hx⟩ := HP.out.2.1
            obtain ⟨z, hz⟩ := mul_ex hp x x n
            exact ⟨z, fun k hk => by rw [hz k hk, hx k hk]⟩
          · rw [← HP.out.2.2 k]
            have he : e' = 2 * (e' / 2) + 1 := by have := Hp.out; omega
            conv => rhs; rw [he]
            rw [Int.pow_succ, Int.pow_mul, show H k ^ 2 = H k * H k from by rw [Int.pow_succ, pow1]]
            grind
    · obtain rfl : e' = 0 := by omega
      have HG := Lib.hid (show FL p m n G = FL p m n (fun k => gh p (at0 xs) k ^ e) from FL_ext fun k _ => by rw [← HP.out.2.2 k, Int.pow_zero, Int.mul_one])
      rw [HG.out] at hG
      obtain ⟨⟨z0, z1, z2⟩, zf⟩ := id hO
      obtain ⟨⟨r0, r1, r2⟩, rf⟩ := id hR
      go_wp2
      refine bodyPost_ret (v := .agg #[.int .i64 p, .int .i64 m, .slice oo n co]) (by simp [results, Try.results198, go_sem, r0, r1, r2]) rfl ⟨_, rfl, ?_, ?_⟩
      · exact (((hG.low (show w.heap.size + 1 < w0.heap.size by omega) _).low (show w.heap.size + 1 < w0.heap.size by omega) _).low (show w.heap.size + 1 < w0.heap.size by omega) _).mono (by omega)
      · (repeat (first | exact Below.refl _ _ | (refine Below.setCell ?_ (by first | (simp; done) | (simp; omega) | omega) _) | (refine Below.alloc ?_ (by first | (simp; done) | (simp; omega) | omega) _) | (refine below_drewN ?_ _) | (refine Below.drew ?_) | (refine Below.trans ?_ (Below.mono hB (by first | (simp; done) | (simp; omega) | omega)))))

end Go.Proofs.Ytcjinlfgeljmkaa
