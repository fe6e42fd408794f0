/- Lemmas of FromI. -/
import Derived.Test.YtcjinlfgeljmkaaWSFrom
set_option linter.unusedSimpArgs false
set_option linter.unusedVariables false
namespace Go.Proofs.Ytcjinlfgeljmkaa
open Go.RowKit

set_option maxHeartbeats 4000000 in
set_option maxRecDepth 100000 in
theorem withGhosts_c (p : Nat) (m W : Int) (v : Value) (gs : List Int) (o1 : Option Addr) (n1 c1 : Nat) (w : World) (hp : P4 p) (hv : RdI w v gs) (h4 : gs.length ≤ 4) (hm : 2 ≤ m) (hm' : m ≤ 10000) (hW : m * (p : Int) ^ 4 = W) (hg : ∀ g ∈ gs, 0 ≤ g ∧ g < W) :
    Calls Try.prog 185 #[.agg #[.int .i64 p, .int .i64 m, .slice o1 n1 c1], v] w fun e w' => VEnd w w' p m ((fromL W p gs).map (· % m)) e := by
  have hpb := hp.bounds
  have hpp := hp.pow3 (Nat.le_refl 4)
  have hb1 : m * (p : Int) ^ 4 ≤ 10000 * 2401 := Int.mul_le_mul hm' hpp.2 (by omega) (by omega)
  have hb2 : 2 * 1 ≤ m * (p : Int) ^ 4 := Int.mul_le_mul hm hpp.1 (by omega) (by omega)
  obtain ⟨o, c, rfl, hmx, hh⟩ := id hv
  clear hh
  have HW := Lib.hid hW
  have hW0 : 2 ≤ W := by omega
  have hW1 : W ≤ 30000000 := by omega
  clear hW hb1 hb2
  go_enter Try.func185, Try.ntmps185
  go_wp2_with fail
  (have X0 := (Box3.mk' w (.int .i64 p) (.int .i64 m) (.slice o1 n1 c1) 59).below (w' := (w.alloc (.cells #[.int .i64 p, .int .i64 m, .slice o1 n1 c1] 59)).alloc (.cells #[.int .i64 0, .int .i64 0, .slice none 0 0] 59)) (by (repeat (first | exact Below.refl _ _ | (refine Below.setCell ?_ (by first | (simp; done) | (simp; omega) | omega) _) | (refine Below.alloc ?_ (by first | (simp; done) | (simp; omega) | omega) _) | (refine below_drewN ?_ _) | (refine Below.drew ?_)))) (Nat.le_refl _); have R0 := RB3.mk2 w (.cells #[.int .i64 p, .int .i64 m, .slice o1 n1 c1] 59) (.int .i64 0) (.int .i64 0) (.slice none 0 0) 59; have B0 : Below w.heap.size w ((w.alloc (.cells #[.int .i64 p, .int .i64 m, .slice o1 n1 c1] 59)).alloc (.cells #[.int .i64 0, .int .i64 0, .slice none 0 0] 59)) := (by (repeat (first | exact Below.refl _ _ | (refine Below.setCell ?_ (by first | (simp; done) | (simp; omega) | omega) _) | (refine Below.alloc ?_ (by first | (simp; done) | (simp; omega) | omega) _) | (refine below_drewN ?_ _) | (refine Below.drew ?_)))); have hv0 := hv.below (w' := (w.alloc (.cells #[.int .i64 p, .int .i64 m, .slice o1 n1 c1] 59)).alloc (.cells #[.int .i64 0, .int .i64 0, .slice none 0 0] 59)) (by (repeat (first | exact Below.refl _ _ | (refine Below.setCell ?_ (by first | (simp; done) | (simp; omega) | omega) _) | (refine Below.alloc ?_ (by first | (simp; done) | (simp; omega) | omega) _) | (refine below_drewN ?_ _) | (refine Below.drew ?_)))) (Nat.le_refl _); generalize (w.alloc (.cells #[.int .i64 p, .int .i64 m, .slice o1 n1 c1] 59)).alloc (.cells #[.int .i64 0, .int .i64 0, .slice none 0 0] 59) = w0 at X0 R0 B0 hv0 ⊢)
  refine (wide_c p m o1 n1 c1 _ hp hm hm').mono ?_
  rw [HW.out]
  rintro e w1 ⟨rfl, hb⟩
  (have X1 := X0.below hb (Nat.le_refl _); have R1 := R0.below hb (Nat.le_refl _); have hv1 := hv0.below hb (Nat.le_refl _); have B1 := B0.trans (hb.mono B0.size))
  go_wp2_with fail
  have O2 := (OwI.lit w1 [] (by decide)).mono (show w.heap.size + 2 ≤ w1.heap.size from R1.1.lt)
  have X2 := X1.below (w' := w1.alloc (.cells #[] 2)) ((by (repeat (first | exact Below.refl _ _ | (refine Below.setCell ?_ (by first | (simp; done) | (simp; omega) | omega) _) | (refine Below.alloc ?_ (by first | (simp; done) | (simp; omega) | omega) _) | (refine below_drewN ?_ _) | (refine Below.drew ?_))))) (Nat.le_refl _)
  have R2 := R1.below (w' := w1.alloc (.cells #[] 2)) ((by (repeat (first | exact Below.refl _ _ | (refine Below.setCell ?_ (by first | (simp; done) | (simp; omega) | omega) _) | (refine Below.alloc ?_ (by first | (simp; done) | (simp; omega) | omega) _) | (refine below_drewN ?_ _) | (refine Below.drew ?_))))) (Nat.le_refl _)
  have B2 : Below w.heap.size w (w1.alloc (.cells #[] 2)) := B1.alloc B1.size _
  simp at O2
  generalize w1.alloc (.cells #[] 2) = w2 at O2 X2 R2 B2 ⊢
  go_loopw [6, 16] (fun s k wr => ∃ n : Nat, n ≤ gs.length ∧ k = .int .i64 n ∧ OwI wr (w.heap.size + 2) s (fromL W p (gs.take n)) ∧ Box3 wr w.heap.size (.int .i64 p) (.int .i64 m) (.slice o1 n1 c1) ∧ RB3 wr (w.heap.size + 1) (.int .i64 0) (.int .i64 0) (.slice none 0 0) ∧ Below w.heap.size w wr) (fun _ k _ => gs.length - (intOf k).toNat)
  case atStart => exact ⟨0, Nat.zero_le _, rfl, O2, X2, R2, B2⟩
  case round =>
    obtain ⟨n, hn, rfl, hO, hX, hR, hB⟩ := hrel
    obtain ⟨ov, cv, rfl⟩ := hO.shapeN (n := n) (by rw [fromL_len]; simp; omega)
    obtain ⟨wo, rfl⟩ : ∃ wo : World, wo = wr := ⟨_, rfl⟩
    by_cases hlt : n < gs.length
    · have hvr := hv.below hB (Nat.le_refl _)
      obtain ⟨o', c', heq, -, hc⟩ := hvr
      obtain ⟨rfl, rfl⟩ : o = o' ∧ c = c' := by simpa using heq
      obtain ⟨b, off, rfl, hx⟩ := hc n (gs[n]) (by simp [hlt])
      clear hc heq
      have hgn := hg gs[n] (List.getElem_mem _)
      have hfl : (fromL W p (gs.take n)).length = n := by rw [fromL_len]; simp; omega
      have hfr := fromL_range (show 0 < W by omega) hp (gs.take n)
      have HN := Lib.hid (fromL_take W p gs hlt)
      generalize fromL W p (gs.take n) = s at *
      subst hfl
      go_wp2_with fail
      go_loopw [9, 23] (fun r i w2 => ∃ (j : Nat) (R : Int), j ≤ s.length ∧ i = .int .i64 j ∧ r = .int .i64 R ∧ Hid (R % W = (gs[s.length] - sumN j (fun t => (p : Int) ^ t * at0 s t ^ (p ^ (s.length - t)))) % W) ∧ -(30000000 * (j : Int)) ≤ R ∧ R ≤ 30000000 ∧ Below wo.heap.size wo w2) (fun _ i _ => s.length - (intOf i).toNat)
      case atStart => exact ⟨0, gs[s.length], Nat.zero_le _, rfl, rfl, Lib.hid (by simp [sumN]), by omega, by omega, Below.refl _ _⟩
      case round =>
        obtain ⟨j, R, hj, rfl, rfl, HE, hR0, hR1, hb⟩ := hrel
        have hX2 := hX.below hb (Nat.le_refl _)
        have hO2 := hO.below hb
        by_cases hjl : j < s.length
        · obtain ⟨ox, cx, heq, -, hcs⟩ := hO2.rd
          obtain ⟨rfl, rfl⟩ : ov = ox ∧ cv = cx := by simpa using heq
          clear heq
          obtain ⟨b2, off2, hov, hsj⟩ := hcs j s[j] (by simp [hjl])
          clear hcs
          subst hov
          have hsr := hfr s[j] (List.getElem_mem _)
          have hat : at0 s j = s[j] := at0_get hjl
          have HT := Lib.hid (restStep (P := (p : Int) ^ j) (X := s[j] ^ (p ^ (s.length - j))) HE.out)
          have hpj := hp.pow3 (show j ≤ 4 by omega)
          have hpq := hp.npow (show s.length - j ≤ 4 by omega)
          have hpr := hp.pow3 (show s.length - j ≤ 4 by omega)
          have hA := mod_lt' (a := (p : Int) ^ j) (show 0 < W by omega)
          have hB' := mod_lt' (a := s[j] ^ (p ^ (s.length - j))) (show 0 < W by omega)
          have hM := mod_lt' (a := (p : Int) ^ j % W * (s[j] ^ (p ^ (s.length - j)) % W)) (show 0 < W by omega)
          have hM2 := mod_lt' (a := (p : Int) ^ j * (s[j] ^ (p ^ (s.length - j)) % W)) (show 0 < W by omega)
          obtain ⟨k0, k1, k2⟩ := id hX2
          go_wp2_with fail
          have e1 : ((p : Int) ^ j).tmod W = (p : Int) ^ j % W := Int.tmod_eq_emod_of_nonneg (by omega)
          have e2 : IntKind.i64.wrap ((s.length : Int) - (j : Int)) = (s.length : Int) - (j : Int) := IntWalk.i64_in _ (by omega)
          have e4 : IntKind.i64.wrap (R - (p : Int) ^ j % W * (s[j] ^ (p ^ (s.length - j)) % W) % W) = R - (p : Int) ^ j % W * (s[j] ^ (p ^ (s.length - j)) % W) % W := IntWalk.i64_in _ (by omega)
          go_quiet ((first | (go_at_call 193; first | (first | exact quietA (rfl) (scale_c _ _ j _ (by omega) (by omega) (by omega) (by omega)) | exact quietB (rfl) (scale_c _ _ j _ (by omega) (by omega) (by omega) (by omega)) | exact quietC (rfl) (scale_c _ _ j _ (by omega) (by omega) (by omega) (by omega)) | exact quietD (rfl) (scale_c _ _ j _ (by omega) (by omega) (by omega) (by omega))) | (first | exact quietA (rfl) (scale_c _ _ (s.length - j) _ (by omega) (by omega) (by omega) (by omega)) | exact quietB (rfl) (scale_c _ _ (s.length - j) _ (by omega) (by omega) (by omega) (by omega)) | exact quietC (rfl) (scale_c _ _ (s.length - j) _ (by omega) (by omega) (by omega) (by omega)) | exact quietD (rfl) (scale_c _ _ (s.length - j) _ (by omega) (by omega) (by omega) (by omega)))) | (go_at_call 197; (first | exact quietA (rfl) (power_c _ _ _ (p ^ (s.length - j)) _ (by simp) (by omega) (by omega) (by omega) (by omega) (by omega)) | exact quietB (rfl) (power_c _ _ _ (p ^ (s.length - j)) _ (by simp) (by omega) (by omega) (by omega) (by omega) (by omega)) | exact quietC (rfl) (power_c _ _ _ (p ^ (s.length - j)) _ (by simp) (by omega) (by omega) (by omega) (by omega) (by omega)) | exact quietD (rfl) (power_c _ _ _ (p ^ (s.length - j)) _ (by simp) (by omega) (by omega) (by omega) (by omega) (by omega)))) | (go_at_call 173; (first | exact quietA (rfl) (mul_c _ _ _ _ (by omega) (by omega) (by omega) (by omega) (by omega) (by omega)) | exact quietB (rfl) (mul_c _ _ _ _ (by omega) (by omega) (by omega) (by omega) (by omega) (by omega)) | exact quietC (rfl) (mul_c _ _ _ _ (by omega) (by omega) (by omega) (by omega) (by omega) (by omega)) | exact quietD (rfl) (mul_c _ _ _ _ (by omega) (by omega) (by omega) (by omega) (by omega) (by omega))))))
          clear e1 e2 e4
          go_wp2
          refine ⟨⟨j + 1, _, by omega, by go_num, rfl, Lib.hid ?_, by omega, by omega, below_drewN hb _⟩, by simp [intOf]; omega⟩
          have h0 := HT.out
          simp only [sumN]
          rw [hat, ← h0]
          congr 2
          rw [Int.mul_emod ((p : Int) ^ j), Int.emod_emod_of_dvd _ (Int.dvd_refl W)]
        · obtain rfl : j = s.length := by omega
          have hB2 := hB.trans (hb.mono hB.size)
          have hR2 := hR.below hb (Nat.le_refl _)
          have hT : R % W / (p : Int) ^ s.length = nextC W p s gs[s.length] := by rw [HE.out]; rfl
          have HT := Lib.hid hT
          clear hT
          have hpk := hp.pow3 (show s.length ≤ 4 by omega)
          have hmm := mod_lt' (a := R) (show 0 < W by omega)
          have hq0 : 0 ≤ R % W / (p : Int) ^ s.length := Int.ediv_nonneg hmm.1 (by omega)
          have hq1 : R % W / (p : Int) ^ s.length ≤ R % W := Int.ediv_le_self _ hmm.1
          have hb' : Below wr.heap.size wr wr.drew := (Below.refl _ _).drew
          have hX3 := hX2.below hb' (Nat.le_refl _)
          have hR3 := hR2.below hb' (Nat.le_refl _)
          have hO3 := hO2.below hb'
          have hB3 := hB2.trans (hb'.mono hB2.size)
          clear hb'
          have hz := hR2.1.lt
          have hz0 : w.heap.size < wr.heap.size := by omega
          have hd : (((p : Int) ^ s.length) == 0) = false := by simp; omega
          have hd' : ¬ ((p : Int) ^ s.length = 0) := by omega
          obtain ⟨k0, k1, k2⟩ := id hX3
          go_wp2_with fail
          have e1 : (R % W).tdiv ((p : Int) ^ s.length) = R % W / (p : Int) ^ s.length := Int.tdiv_eq_ediv_of_nonneg hmm.1
          have e2 : IntKind.i64.wrap (R % W / (p : Int) ^ s.length) = R % W / (p : Int) ^ s.length := IntWalk.i64_in _ (by omega)
          have X4 := hX2.below (w' := (wr.alloc (.cells #[.int .i64 (R % W / (p : Int) ^ s.length)] 2)).drew) ((by (repeat (first | exact Below.refl _ _ | (refine Below.setCell ?_ (by first | (simp; done) | (simp; omega) | omega) _) | (refine Below.alloc ?_ (by first | (simp; done) | (simp; omega) | omega) _) | (refine below_drewN ?_ _) | (refine Below.drew ?_))))) (Nat.le_refl _)
          go_region_held3 (fun w' => w'.cell? ⟨w.heap.size, 0, none⟩ = some (.int .i64 p) ∧ w'.cell? ⟨w.heap.size, 1, none⟩ = some (.int .i64 m) ∧ w'.cell? ⟨w.heap.size, 2, none⟩ = some (.slice o1 n1 c1)) (first | exact X4 | exact X5 | go_keep)
            (first
              | (go_at_call 199; (refine (mod_c _ _ _ (by omega) (by omega) (by omega) (by omega)).mono ?_; rintro e w' ⟨rfl, rfl⟩))
              | (go_at_call 193; (refine (scale_c _ _ s.length _ rfl (by omega) (by omega) (by omega)).mono ?_; rintro e w' ⟨rfl, rfl⟩))
              | (refine stR _ rfl _ _ rfl (w.heap.size + 2) (.slice ov s.length cv) s rfl (hO3.alloc _) ⟨wr.heap.size, 0, none⟩ 1 1 [R % W / (p : Int) ^ s.length] rfl (OwI.lit wr.drew [R % W / (p : Int) ^ s.length] (by simp [maxLen])).rd (by simp; omega) (by simp; omega) ?_; intro o4 c4 w4 hO4 hgr hb4; clear hgr; have hb5 : Below (w.heap.size + 2) wr w4 := Below.trans ((by (repeat (first | exact Below.refl _ _ | (refine Below.setCell ?_ (by first | (simp; done) | (simp; omega) | omega) _) | (refine Below.alloc ?_ (by first | (simp; done) | (simp; omega) | omega) _) | (refine below_drewN ?_ _) | (refine Below.drew ?_))))) hb4; have X5 := hX2.belowB hb5 (by omega)))
          go_wp2
          have hl5 : (s ++ [R % W / (p : Int) ^ s.length]).length = s.length + 1 := by simp
          rw [hl5, HT.out] at hO4
          rw [← HN.out] at hO4
          have hR5 : RB3 w4 (w.heap.size + 1) (.int .i64 0) (.int .i64 0) (.slice none 0 0) := hR2.belowB hb5 (by omega)
          exact ⟨⟨s.length + 1, by omega, by go_num, hO4, X5, hR5, hB2.trans (hb5.mono (by omega))⟩, by simp [intOf]; omega⟩
    · obtain rfl : n = gs.length := by omega
      rw [List.take_length] at hO
      have hfl : (fromL W p gs).length = gs.length := fromL_len _ _ _
      have hfr := fromL_range (show 0 < W by omega) hp gs
      have hb' : Below wo.heap.size wo wo.drew := (Below.refl _ _).drew
      have hX3 := hX.below hb' (Nat.le_refl _)
      have hR3 := hR.below hb' (Nat.le_refl _)
      have hO3 := hO.below hb'
      have hB3 := hB.trans (hb'.mono hB.size)
      clear hb'
      have hz := hR.1.lt
      have hz0 : w.heap.size < wo.heap.size := by omega
      obtain ⟨k0, k1, k2⟩ := id hX3
      have hO4 : RdI wo.drew (.slice ov gs.length cv) (fromL W p gs) := hO3.rd
      go_wp2_with fail
      go_region_held3 (fun w' => w'.cell? ⟨w.heap.size, 0, none⟩ = some (.int .i64 p) ∧ w'.cell? ⟨w.heap.size, 1, none⟩ = some (.int .i64 m) ∧ w'.cell? ⟨w.heap.size, 2, none⟩ = some (.slice o1 n1 c1)) (first | exact X5 | go_keep)
        (first
          | (go_at_call 138; (refine (remainders_c m _ (fromL W p gs) _ hO4 (by omega) (by omega) (fun x hx => by have := hfr x hx; omega)).mono ?_; rintro e w5 ⟨v5, rfl, hO5, hb5⟩; obtain ⟨o5, c5, rfl⟩ := hO5.shapeN (n := gs.length) (by simp [hfl]); have X5 := hX3.below hb5 (Nat.le_refl _); have R5 := hR3.below hb5 (Nat.le_refl _); obtain ⟨⟨r0, r1, r2⟩, rf⟩ := id R5)))
      go_wp2
      have hB5 := hB3.trans (hb5.mono hB3.size)
      refine bodyPost_ret (v := .agg #[.int .i64 p, .int .i64 m, .slice o5 gs.length c5]) (by simp [results, Try.results185, go_sem, r0, r1, r2]) rfl ⟨_, rfl, ?_, ?_⟩
      · have hz5 : w.heap.size + 1 < wo.drew.heap.size := hz
        exact ((((hO5.low hz5 _).low hz5 _).low hz5 _)).mono (by have := hB3.size; omega)
      · (repeat (first | exact Below.refl _ _ | (refine Below.setCell ?_ (by first | (simp; done) | (simp; omega) | omega) _) | (refine Below.alloc ?_ (by first | (simp; done) | (simp; omega) | omega) _) | (refine below_drewN ?_ _) | (refine Below.drew ?_) | (refine Below.trans ?_ (Below.mono hB5 (by first | (simp; done) | (simp; omega) | omega)))))

end Go.Proofs.Ytcjinlfgeljmkaa
