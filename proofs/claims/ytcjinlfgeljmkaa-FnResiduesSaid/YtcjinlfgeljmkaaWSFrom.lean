/- Lemmas of From. -/
import Derived.Test.YtcjinlfgeljmkaaWSWittD
import Derived.Test.YtcjinlfgeljmkaaWSG2
set_option linter.unusedSimpArgs false
set_option linter.unusedVariables false
namespace Go.Proofs.Ytcjinlfgeljmkaa
open Go.RowKit

def redTo (m : Int) (s : List Int) (k : Nat) : List Int := (s.take k).map (· % m) ++ s.drop k
theorem redTo_len (m : Int) (s : List Int) (k : Nat) (hk : k ≤ s.length) : (redTo m s k).length = s.length := by simp [redTo]; omega
theorem redTo_0 (m : Int) (s : List Int) : redTo m s 0 = s := by simp [redTo]
theorem redTo_all (m : Int) (s : List Int) : redTo m s s.length = s.map (· % m) := by simp [redTo]
theorem redTo_get (m : Int) (s : List Int) (k : Nat) (hk : k < s.length) : (redTo m s k)[k]? = some s[k] := by
  unfold redTo
  rw [List.getElem?_append_right (by simp; omega)]
  simp [hk, show min k s.length = k by omega]
theorem redTo_set (m : Int) (s : List Int) (k : Nat) (hk : k < s.length) : (redTo m s k).set k (s[k] % m) = redTo m s (k + 1) := by
  unfold redTo
  rw [List.drop_eq_getElem_cons hk, List.set_append_right _ _ (by simp; omega)]
  simp only [List.length_map, List.length_take, show min k s.length = k by omega, Nat.sub_self, List.set_cons_zero]
  rw [List.take_succ_eq_append_getElem hk, List.map_append]
  simp

theorem sub_mod_step {a b c W : Int} (h : a % W = b % W) : (a - c % W) % W = (b - c) % W := by
  rw [Int.sub_emod, h, Int.emod_emod_of_dvd _ (Int.dvd_refl W), ← Int.sub_emod]

theorem restStep {R g S P X W : Int} (h : R % W = (g - S) % W) : (R - P * (X % W) % W) % W = (g - (S + P * X)) % W := by
  rw [sub_mod_step h, Int.sub_emod, Int.mul_emod, Int.emod_emod_of_dvd _ (Int.dvd_refl W), ← Int.mul_emod, ← Int.sub_emod]
  congr 1
  omega

theorem nextC_nonneg {W : Int} (hW : 0 < W) {p : Nat} (hp : P4 p) (s : List Int) (g : Int) : 0 ≤ nextC W p s g ∧ nextC W p s g < W := by
  unfold nextC
  have h := mod_lt' (a := g - below_sum p s s.length) hW
  have hp1 := pow_pos' hp.bounds.1 s.length
  exact ⟨Int.ediv_nonneg h.1 (by omega), Int.lt_of_le_of_lt (Int.ediv_le_self _ h.1) h.2⟩
theorem fromL_range {W : Int} (hW : 0 < W) {p : Nat} (hp : P4 p) (gs : List Int) : ∀ x ∈ fromL W p gs, 0 ≤ x ∧ x < W := by
  have : ∀ (l s : List Int), (∀ x ∈ s, 0 ≤ x ∧ x < W) → ∀ x ∈ l.foldl (fun s g => s ++ [nextC W p s g]) s, 0 ≤ x ∧ x < W := by
    intro l
    induction l with
    | nil => intro s h; simpa using h
    | cons g l ih =>
      intro s h
      simp only [List.foldl_cons]
      apply ih
      intro x hx
      rcases List.mem_append.1 hx with hx | hx
      · exact h x hx
      · simp only [List.mem_singleton] at hx; subst hx; exact nextC_nonneg hW hp s g
  exact this gs [] (by simp)

set_option maxHeartbeats 2000000 in
set_option maxRecDepth 100000 in
theorem l13From_c (p : Nat) (m W : Int) (v : Value) (gs : List Int) (w : World) (hp : P4 p) (hv : RdI w v gs) (h1 : 1 ≤ gs.length) (h4 : gs.length ≤ 4) (hm : 2 ≤ m) (hm' : m ≤ 10000) (hW : m * (p : Int) ^ (gs.length - 1) = W) (hg : ∀ g ∈ gs, 0 ≤ g ∧ g < W) :
    Calls Try.prog 231 #[.int .i64 p, .int .i64 m, v] w fun e w' => ∃ v', e = .returned v' ∧ OwI w' w.heap.size v' ((fromL W p gs).map (· % m)) ∧ Below w.heap.size w w' := by
  have hpb := hp.bounds
  have hpp := hp.pow3 (show gs.length - 1 ≤ 4 by omega)
  have hb0 : 0 ≤ m * (p : Int) ^ (gs.length - 1) := Int.mul_nonneg (by omega) (by omega)
  have hb1 : m * (p : Int) ^ (gs.length - 1) ≤ 10000 * 2401 := Int.mul_le_mul hm' hpp.2 (by omega) (by omega)
  have hb2 : 2 * 1 ≤ m * (p : Int) ^ (gs.length - 1) := Int.mul_le_mul hm hpp.1 (by omega) (by omega)
  obtain ⟨o, c, rfl, hmx, hh⟩ := id hv
  clear hh
  have e0 : ((gs.length : Int) - 1).toNat = gs.length - 1 := by omega
  have HW := Lib.hid hW
  have hW0 : 2 ≤ W := by omega
  have hW1 : W ≤ 30000000 := by omega
  clear hW
  go_enter Try.func231, Try.ntmps231
  go_wp2_with (go_at_call 195; refine (l13Raise_c _ _ (gs.length - 1) _ (by omega) (by omega) (by omega) (by omega)).mono ?_; rintro e w' ⟨rfl, rfl⟩)
  rw [HW.out]
  clear hb0 hb1 hb2 e0
  have O1 := OwI.lit w [] (by decide)
  have B1 : Below w.heap.size w (w.alloc (.cells #[] 2)) := (by (repeat (first | exact Below.refl _ _ | (refine Below.setCell ?_ (by first | (simp; done) | (simp; omega) | omega) _) | (refine Below.alloc ?_ (by first | (simp; done) | (simp; omega) | omega) _) | (refine below_drewN ?_ _) | (refine Below.drew ?_))))
  simp at O1
  generalize w.alloc (.cells #[] 2) = w1 at O1 B1 ⊢
  go_loopw [9, 10, 11, 12] (fun s k _ _ wr => ∃ n : Nat, n ≤ gs.length ∧ k = .int .i64 n ∧ OwI wr w.heap.size s (fromL W p (gs.take n)) ∧ Below w.heap.size w wr) (fun _ k _ _ _ => gs.length - (intOf k).toNat)
  case atStart => exact ⟨0, Nat.zero_le _, rfl, O1, B1⟩
  case round =>
    obtain ⟨n, hn, rfl, hO, hB⟩ := hrel
    obtain ⟨ov, cv, rfl⟩ := hO.shapeN (n := n) (by rw [fromL_len]; simp; omega)
    obtain ⟨wo, rfl⟩ : ∃ wo : World, wo = wr := ⟨_, rfl⟩
    by_cases hlt : n < gs.length
    · have hvr := hv.below hB (Nat.le_refl _)
      obtain ⟨o', c', heq, -, hc⟩ := hvr
      obtain ⟨rfl, rfl⟩ : o = o' ∧ c = c' := by simpa using heq
      obtain ⟨b, off, rfl, hx⟩ := hc n (gs[n]) (by simp [hlt])
      clear hc heq
      have hgn := hg gs[n] (List.getElem_mem _)
      have hfl : (fromL W p (gs.take n)).length = n := by rw [fromL_len]; simp; omega
      have hfr := fromL_range (show 0 < W by omega) hp (gs.take n)
      have HN := Lib.hid (fromL_take W p gs hlt)
      generalize fromL W p (gs.take n) = s at *
      subst hfl
      go_wp2_with fail
      go_loopw [11, 12] (fun r i w2 => ∃ (j : Nat) (R : Int), j ≤ s.length ∧ i = .int .i64 j ∧ r = .int .i64 R ∧ Hid (R % W = (gs[s.length] - sumN j (fun t => (p : Int) ^ t * at0 s t ^ (p ^ (s.length - t)))) % W) ∧ -(30000000 * (j : Int)) ≤ R ∧ R ≤ 30000000 ∧ Below wo.heap.size wo w2) (fun _ i _ => s.length - (intOf i).toNat)
      case atStart => exact ⟨0, gs[s.length], Nat.zero_le _, rfl, rfl, Lib.hid (by simp [sumN]), by omega, by omega, Below.refl _ _⟩
      case round =>
        obtain ⟨j, R, hj, rfl, rfl, HE, hR0, hR1, hb⟩ := hrel
        by_cases hjl : j < s.length
        · have hO2 := hO.below hb
          obtain ⟨ox, cx, heq, -, hcs⟩ := hO2.rd
          obtain ⟨rfl, rfl⟩ : ov = ox ∧ cv = cx := by simpa using heq
          clear heq
          obtain ⟨b2, off2, hov, hsj⟩ := hcs j s[j] (by simp [hjl])
          clear hcs
          subst hov
          have hsr := hfr s[j] (List.getElem_mem _)
          have hat : at0 s j = s[j] := at0_get hjl
          have HT := Lib.hid (restStep (P := (p : Int) ^ j) (X := s[j] ^ (p ^ (s.length - j))) HE.out)
          have hpj := hp.pow3 (show j ≤ 4 by omega)
          have hpq := hp.npow (show s.length - j ≤ 4 by omega)
          have hpr := hp.pow3 (show s.length - j ≤ 4 by omega)
          have hB := mod_lt' (a := s[j] ^ (p ^ (s.length - j))) (show 0 < W by omega)
          have hP0 : 0 ≤ (p : Int) ^ j * (s[j] ^ (p ^ (s.length - j)) % W) := Int.mul_nonneg (by omega) hB.1
          have hP1 : (p : Int) ^ j * (s[j] ^ (p ^ (s.length - j)) % W) ≤ 2401 * 30000000 := Int.mul_le_mul hpj.2 (by omega) hB.1 (by omega)
          have hM := mod_lt' (a := (p : Int) ^ j * (s[j] ^ (p ^ (s.length - j)) % W)) (show 0 < W by omega)
          go_wp2_with fail
          have e2 : IntKind.i64.wrap ((s.length : Int) - (j : Int)) = (s.length : Int) - (j : Int) := IntWalk.i64_in _ (by omega)
          have e3 : IntKind.i64.wrap ((p : Int) ^ j * (s[j] ^ (p ^ (s.length - j)) % W)) = (p : Int) ^ j * (s[j] ^ (p ^ (s.length - j)) % W) := IntWalk.i64_in _ (by omega)
          have e4 : IntKind.i64.wrap (R - (p : Int) ^ j * (s[j] ^ (p ^ (s.length - j)) % W) % W) = R - (p : Int) ^ j * (s[j] ^ (p ^ (s.length - j)) % W) % W := IntWalk.i64_in _ (by omega)
          have e5 : ((p : Int) ^ j * (s[j] ^ (p ^ (s.length - j)) % W)).tmod W = (p : Int) ^ j * (s[j] ^ (p ^ (s.length - j)) % W) % W := Int.tmod_eq_emod_of_nonneg (by omega)
          go_quiet ((first | (go_at_call 195; first | (first | exact quietA (rfl) (l13Raise_c _ _ j _ (by omega) (by omega) (by omega) (by omega)) | exact quietB (rfl) (l13Raise_c _ _ j _ (by omega) (by omega) (by omega) (by omega)) | exact quietC (rfl) (l13Raise_c _ _ j _ (by omega) (by omega) (by omega) (by omega)) | exact quietD (rfl) (l13Raise_c _ _ j _ (by omega) (by omega) (by omega) (by omega))) | (first | exact quietA (rfl) (l13Raise_c _ _ (s.length - j) _ (by omega) (by omega) (by omega) (by omega)) | exact quietB (rfl) (l13Raise_c _ _ (s.length - j) _ (by omega) (by omega) (by omega) (by omega)) | exact quietC (rfl) (l13Raise_c _ _ (s.length - j) _ (by omega) (by omega) (by omega) (by omega)) | exact quietD (rfl) (l13Raise_c _ _ (s.length - j) _ (by omega) (by omega) (by omega) (by omega)))) | (go_at_call 239; (first | exact quietA (rfl) (l13Power_c _ _ _ (p ^ (s.length - j)) _ (by simp) (by omega) (by omega) (by omega) (by omega) (by omega)) | exact quietB (rfl) (l13Power_c _ _ _ (p ^ (s.length - j)) _ (by simp) (by omega) (by omega) (by omega) (by omega) (by omega)) | exact quietC (rfl) (l13Power_c _ _ _ (p ^ (s.length - j)) _ (by simp) (by omega) (by omega) (by omega) (by omega) (by omega)) | exact quietD (rfl) (l13Power_c _ _ _ (p ^ (s.length - j)) _ (by simp) (by omega) (by omega) (by omega) (by omega) (by omega))))))
          clear e2 e3 e4 e5
          go_wp2
          refine ⟨⟨j + 1, _, by omega, by go_num, rfl, Lib.hid (by rw [HT.out]; simp only [sumN]; rw [hat]), by omega, by omega, below_drewN hb _⟩, by simp [intOf]; omega⟩
        · obtain rfl : j = s.length := by omega
          have hO2 := hO.below hb
          have hB2 := hB.trans (hb.mono hB.size)
          have hB2s := hB2.size
          have h3 : -W < R.tmod W := Int.lt_tmod_of_pos _ (by omega)
          have h4 : R.tmod W < W := Int.tmod_lt_of_pos _ (by omega)
          have hT : R.tmod W % W / (p : Int) ^ s.length = nextC W p s gs[s.length] := by rw [← Int.add_emod_right, tmod_mod, HE.out]; rfl
          have HT := Lib.hid hT
          clear hT
          have hpk := hp.pow3 (show s.length ≤ 4 by omega)
          have hmm := mod_lt' (a := R.tmod W) (show 0 < W by omega)
          go_wp2_with (first | (go_at_call 195; refine (l13Raise_c _ _ s.length _ rfl (by omega) (by omega) (by omega)).mono ?_; rintro e w' ⟨rfl, rfl⟩) | (at_builtin; go_loud (refine apI wr rfl _ _ rfl w.heap.size (.slice ov s.length cv) s rfl hO2 _ rfl (by omega) (by omega) ?_); intro v' w4 hO3 hgr hb3 hlt3; clear hgr))
          rw [HT.out] at hO3
          rw [← HN.out] at hO3
          exact ⟨⟨s.length + 1, by omega, by go_num, hO3, hB2.trans hb3⟩, by simp [intOf]; omega⟩
    · obtain rfl : n = gs.length := by omega
      rw [List.take_length] at hO
      have hfl : (fromL W p gs).length = gs.length := fromL_len _ _ _
      have hfr := fromL_range (show 0 < W by omega) hp gs
      generalize hs : fromL W p gs = s at *
      have HS := Lib.hid hs
      clear hs
      have hsl : s.length ≤ 4 := by omega
      have Hfl := Lib.hid hfl
      clear hfl
      go_wp2_with fail
      rw [← Hfl.out] at hO ⊢
      go_loopw [13] (fun k w2 => ∃ n : Nat, n ≤ s.length ∧ k = .int .i64 n ∧ OwI w2 w.heap.size (.slice ov s.length cv) (redTo m s n) ∧ Below w.heap.size w w2) (fun k _ => s.length - (intOf k).toNat)
      case atStart => exact ⟨0, Nat.zero_le _, rfl, by rw [redTo_0]; exact hO, hB⟩
      case round =>
        obtain ⟨n, hn, rfl, hO2, hB2⟩ := hrel
        by_cases hlt2 : n < s.length
        · obtain ⟨g, cap, hv2, hg2, hgl, _, hcell, hfr2⟩ := OwI.opn hO2 (by rw [redTo_len _ _ _ hn]; omega)
          obtain ⟨rfl, rfl⟩ : ov = some ⟨g, 0, none⟩ ∧ cv = cap := by simp at hv2; exact ⟨hv2.1, hv2.2.2⟩
          have hc0 := hcell n _ (redTo_get m s n hlt2)
          have hf0 := hfr2 n
          have hsn := hfr s[n] (List.getElem_mem _)
          clear hcell hfr2 hv2
          have Hn := Lib.hid hO2
          clear hO2
          go_wp2
          have h2 := OwI.put Hn.out n (s[n] % m)
          rw [redTo_set _ _ _ hlt2] at h2
          exact ⟨⟨n + 1, by omega, by go_num, h2, below_put hB2 hg2 _⟩, by simp [intOf]; omega⟩
        · obtain rfl : n = s.length := by omega
          rw [redTo_all] at hO2
          go_wp2
          go_ret
          exact ⟨_, rfl, by rw [HS.out]; exact hO2, hB2⟩

set_option maxHeartbeats 1000000 in
set_option maxRecDepth 100000 in
theorem remainders_c (m : Int) (v : Value) (xs : List Int) (w : World) (hv : RdI w v xs) (hm : 1 ≤ m) (hn : xs.length ≤ 1048576) (hx : ∀ x ∈ xs, 0 ≤ x ∧ x ≤ 9000000000000000000) :
    Calls Try.prog 138 #[v, .int .i64 m] w fun e w' => ∃ v', e = .returned v' ∧ OwI w' w.heap.size v' (xs.map (· % m)) ∧ Below w.heap.size w w' := by
  obtain ⟨o, c, rfl, hmx, hh⟩ := id hv
  clear hh
  go_enter Try.func138, Try.ntmps138
  go_wp2
  have O1 := OwI.lit w [] (by decide)
  have B1 : Below w.heap.size w (w.alloc (.cells #[] 2)) := (by (repeat (first | exact Below.refl _ _ | (refine Below.setCell ?_ (by first | (simp; done) | (simp; omega) | omega) _) | (refine Below.alloc ?_ (by first | (simp; done) | (simp; omega) | omega) _) | (refine below_drewN ?_ _) | (refine Below.drew ?_))))
  simp at O1
  generalize w.alloc (.cells #[] 2) = w1 at O1 B1 ⊢
  go_loopw [5, 7, 11] (fun s _ i wr => ∃ n : Nat, n ≤ xs.length ∧ i = .int .i64 n ∧ OwI wr w.heap.size s ((xs.take n).map (· % m)) ∧ Below w.heap.size w wr) (fun _ _ i _ => xs.length - (intOf i).toNat)
  case atStart => exact ⟨0, Nat.zero_le _, rfl, by simpa using O1, B1⟩
  case round =>
    obtain ⟨n, hn', rfl, hO, hB⟩ := hrel
    obtain ⟨ov, cv, rfl⟩ := hO.shapeN (n := n) (by simp; omega)
    by_cases hlt : n < xs.length
    · have hvr := hv.below hB (Nat.le_refl _)
      obtain ⟨o', c', heq, -, hc⟩ := hvr
      obtain ⟨rfl, rfl⟩ : o = o' ∧ c = c' := by simpa using heq
      obtain ⟨b, off, rfl, hxc⟩ := hc n (xs[n]) (by simp [hlt])
      clear hc heq
      have hxn := hx xs[n] (List.getElem_mem _)
      have hBs := hB.size
      go_wp2_with (at_builtin; refine apI wr rfl _ _ rfl w.heap.size (.slice ov n cv) _ rfl hO _ rfl (by simp; omega) (by omega) ?_; intro v' w4 hO3 hgr hb3 hlt3; clear hgr)
      have hT : (xs.take n).map (· % m) ++ [xs[n] % m] = (xs.take (n + 1)).map (· % m) := by rw [List.take_succ_eq_append_getElem hlt, List.map_append]; rfl
      rw [hT] at hO3
      exact ⟨⟨n + 1, by omega, by go_num, hO3, hB.trans hb3⟩, by simp [intOf]; omega⟩
    · obtain rfl : n = xs.length := by omega
      rw [List.take_length] at hO
      go_wp2
      go_ret
      exact ⟨_, rfl, hO, hB⟩

set_option maxHeartbeats 1000000 in
set_option maxRecDepth 100000 in
theorem wide_c (p : Nat) (m : Int) (o : Option Addr) (n c : Nat) (w : World) (hp : P4 p) (hm : 2 ≤ m) (hm' : m ≤ 10000) :
    Calls Try.prog 170 #[.agg #[.int .i64 p, .int .i64 m, .slice o n c]] w fun e w' => e = .returned (.int .i64 (m * (p : Int) ^ 4)) ∧ Below w.heap.size w w' := by
  have hpb := hp.bounds
  have hpp := hp.pow3 (Nat.le_refl 4)
  have hb0 : 0 ≤ m * (p : Int) ^ 4 := Int.mul_nonneg (by omega) (by omega)
  have hb1 : m * (p : Int) ^ 4 ≤ 10000 * 2401 := Int.mul_le_mul hm' hpp.2 (by omega) (by omega)
  go_enter Try.func170, Try.ntmps170
  go_wp2
  have e1 : IntKind.i64.wrap (m * (p : Int) ^ 4) = m * (p : Int) ^ 4 := IntWalk.i64_in _ (by omega)
  go_quiet ((go_at_call 193; (first | exact quietA (rfl) (scale_c _ _ 4 _ rfl (by omega) (by omega) (by omega)) | exact quietB (rfl) (scale_c _ _ 4 _ rfl (by omega) (by omega) (by omega)) | exact quietC (rfl) (scale_c _ _ 4 _ rfl (by omega) (by omega) (by omega)) | exact quietD (rfl) (scale_c _ _ 4 _ rfl (by omega) (by omega) (by omega)))))
  clear e1
  go_wp2
  go_ret
  exact ⟨rfl, (by (repeat (first | exact Below.refl _ _ | (refine Below.setCell ?_ (by first | (simp; done) | (simp; omega) | omega) _) | (refine Below.alloc ?_ (by first | (simp; done) | (simp; omega) | omega) _) | (refine below_drewN ?_ _) | (refine Below.drew ?_))))⟩

end Go.Proofs.Ytcjinlfgeljmkaa
