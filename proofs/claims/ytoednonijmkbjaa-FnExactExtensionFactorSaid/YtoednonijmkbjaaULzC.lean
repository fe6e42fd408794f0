/- Lemmas of LzC. -/
import Derived.Test.YtoednonijmkbjaaULzB
import Derived.Test.YtoednonijmkbjaaUG3
set_option linter.unusedSimpArgs false
set_option linter.unusedVariables false
namespace Go.Proofs.Ytoednonijmkbjaa
open Go.RowKit

def fitTo (m : Int) (c d : Nat → Int) (x : Int) : Nat → Bool
  | 0 => true
  | k + 1 => fitTo m c d x k && (d k % m == x * (c k % m) % m)
def facTo (m : Int) (c d : Nat → Int) (n : Nat) : Nat → Int
  | 0 => -1
  | k + 1 => if 0 ≤ facTo m c d n k then facTo m c d n k else if fitTo m c d k n = true then (k : Int) else -1
theorem facTo_keep {m : Int} {c d : Nat → Int} {n k : Nat} (h : 0 ≤ facTo m c d n k) : ∀ j, facTo m c d n (k + j) = facTo m c d n k
  | 0 => rfl
  | j + 1 => by
    show (if 0 ≤ facTo m c d n (k + j) then facTo m c d n (k + j) else _) = _
    rw [facTo_keep h j, if_pos h]
theorem facTo_t {m : Int} {c d : Nat → Int} {n k : Nat} (h : facTo m c d n k = -1) (hf : fitTo m c d k n = true) : facTo m c d n (k + 1) = k := by
  show (if 0 ≤ facTo m c d n k then _ else if fitTo m c d k n = true then (k : Int) else -1) = k
  rw [h, if_neg (by omega), if_pos hf]
theorem facTo_f {m : Int} {c d : Nat → Int} {n k : Nat} (h : facTo m c d n k = -1) (hf : fitTo m c d k n = false) : facTo m c d n (k + 1) = -1 := by
  show (if 0 ≤ facTo m c d n k then _ else if fitTo m c d k n = true then (k : Int) else -1) = -1
  rw [h, if_neg (by omega), if_neg (by rw [hf]; simp)]
theorem facTo_end {m : Int} {c d : Nat → Int} {n k M : Nat} (h : facTo m c d n k = -1) (hf : fitTo m c d k n = true) (hk : k < M) : facTo m c d n M = k := by
  have h1 := facTo_t h hf
  have h2 := facTo_keep (m := m) (c := c) (d := d) (n := n) (k := k + 1) (by rw [h1]; omega) (M - (k + 1))
  rw [show k + 1 + (M - (k + 1)) = M by omega, h1] at h2
  exact h2
theorem facTo_cases (m : Int) (c d : Nat → Int) (n : Nat) : ∀ K, facTo m c d n K = -1 ∨ (∃ k : Nat, k < K ∧ facTo m c d n K = k ∧ fitTo m c d k n = true)
  | 0 => .inl rfl
  | K + 1 => by
    rcases facTo_cases m c d n K with h | ⟨k, hk, h, hf⟩
    · cases hf : fitTo m c d K n
      · exact .inl (facTo_f h hf)
      · exact .inr ⟨K, by omega, facTo_t h hf, hf⟩
    · exact .inr ⟨k, by omega, by have := facTo_keep (m := m) (c := c) (d := d) (n := n) (k := K) (by rw [h]; omega) 1; rw [this, h], hf⟩
theorem fitTo_f {m : Int} {c d : Nat → Int} {x : Int} {k : Nat} (h : fitTo m c d x k = false) : ∀ j, fitTo m c d x (k + j) = false
  | 0 => h
  | j + 1 => by show (fitTo m c d x (k + j) && _) = false; rw [fitTo_f h j]; rfl
def facP (m : Int) (c d : Nat → Int) (n : Nat) : Int := if 0 ≤ facTo m c d n m.toNat then facTo m c d n m.toNat else 0
theorem facP_t {m : Int} {c d : Nat → Int} {n k : Nat} (h : facTo m c d n k = -1) (hf : fitTo m c d k n = true) (hk : k < m.toNat) : facP m c d n = k := by
  unfold facP; rw [facTo_end h hf hk, if_pos (by omega)]
theorem facP_f {m : Int} {c d : Nat → Int} {n : Nat} (h : facTo m c d n m.toNat = -1) : facP m c d n = 0 := by
  unfold facP; rw [h, if_neg (by omega)]
theorem laz_range {n : Nat} (h2 : 2 ≤ n) (hn : n ≤ 10) (i : Nat) : 0 ≤ laz n i ∧ laz n i ≤ 1024 := by
  unfold laz
  by_cases h : 1 ≤ i ∧ i < n
  · rw [if_pos h]
    have r := bin_r10 hn i
    have l := lam_range n h2 hn
    exact ⟨Int.ediv_nonneg r.1 (by omega), Int.le_trans (Int.ediv_le_self _ r.1) r.2⟩
  · rw [if_neg h]; omega

set_option maxHeartbeats 2000000 in
set_option maxRecDepth 100000 in
theorem factorOf_c (m : Int) (n : Nat) (v : Value) (ds : List Int) (w : World) (hv : RdI w v ds) (hl : ds.length = n + 1) (h2 : 2 ≤ n) (hn : n ≤ 10) (hm : 2 ≤ m) (hm' : m ≤ 10000) (hd : ∀ x ∈ ds, 0 ≤ x ∧ x < m) :
    Calls Try.prog 42 #[.int .i64 m, v] w fun e w' => e = .returned (.int .i64 (facP m (laz n) (at0 ds) (n + 1))) ∧ Below w.heap.size w w' := by
  obtain ⟨M, rfl⟩ : ∃ M : Nat, m = M := ⟨m.toNat, by omega⟩
  obtain ⟨o, cv, rfl, hmx, -⟩ := id hv
  have HL := Lib.hid hl
  rw [hl] at hmx ⊢
  have hv' : RdI w (.slice o (n + 1) cv) ds := by rw [hl] at hv; exact hv
  obtain ⟨bv, fv, rfl, -⟩ := hv'.cells (by omega)
  clear hv hl
  have HDr := Lib.hid hd
  clear hd
  go_enter Try.func42, Try.ntmps42
  go_wp2_with fail
  refine (lazard_c n w h2 hn).mono ?_
  rintro e w1 ⟨vc, rfl, hO, hb1⟩
  obtain ⟨oc, cc, rfl⟩ := hO.shapeN (n := n + 1) (mk_len _ _)
  obtain ⟨gc, rfl, -, -⟩ := hO.row (by omega)
  have hC := hO.rd
  have hV := hv'.below hb1 (Nat.le_refl _)
  clear hv' hO
  go_wp2_with fail
  go_loopw [15] (fun i wr => ∃ (k : Nat) (d : Nat), k ≤ M ∧ i = .int .i64 k ∧ wr = w1.drewN d ∧ Hid (facTo M (laz n) (at0 ds) (n + 1) k = -1)) (fun i _ => M - (intOf i).toNat)
  case atStart => exact ⟨0, 0, Nat.zero_le _, rfl, rfl, Lib.hid rfl⟩
  case round =>
    obtain ⟨k, dr, hk, rfl, rfl, HK⟩ := hrel
    by_cases hlt : k < M
    · have i0 : (k : Int) < (M : Int) := by omega
      go_wp2_with fail
      go_loopw [7, 20] (fun f i wr => ∃ (q : Nat) (d : Nat), q ≤ n + 1 ∧ i = .int .i64 q ∧ f = .bool (fitTo M (laz n) (at0 ds) k q) ∧ wr = w1.drewN d) (fun _ i _ => n + 1 - (intOf i).toNat)
      case atStart => exact ⟨0, dr, Nat.zero_le _, rfl, rfl, rfl⟩
      case round =>
        obtain ⟨q, dq, hq, rfl, rfl, rfl⟩ := hrel
        by_cases hql : q < n + 1
        · have i1 : (q : Int) < (n : Int) + 1 := by omega
          have i2 : (0 : Int) ≤ (q : Int) := by omega
          have i3 : (q : Int) < ((n + 1 : Nat) : Int) := by omega
          have hb : Below w1.heap.size w1 (w1.drewN dq) := (by (repeat (first | exact Below.refl _ _ | (refine Below.setCell ?_ (by first | (simp; done) | (simp; omega) | omega) _) | (refine Below.alloc ?_ (by first | (simp; done) | (simp; omega) | omega) _) | (refine below_drewN ?_ _) | (refine Below.drew ?_))))
          have cV := hV.cell0 (some_at0 (show q < ds.length by have := HL.out; omega))
          have cC := hC.cell0 (mk_get (f := laz n) hql)
          rw [Nat.zero_add] at cC
          have rd := at0_range (by omega) HDr.out q
          have rl := laz_range h2 hn q
          have rm := mod_lt' (a := laz n q) (show 0 < (M : Int) by omega)
          have m0 : ((M : Int) == 0) = false := by simp; omega
          have m1 : ¬ (M : Int) = 0 := by omega
          have hp : 0 ≤ (k : Int) * (laz n q % (M : Int)) ∧ (k : Int) * (laz n q % (M : Int)) ≤ 10000 * 10000 := ⟨Int.mul_nonneg (by omega) rm.1, Int.mul_le_mul (by omega) (by omega) rm.1 (by omega)⟩
          have e1 : (laz n q).tmod (M : Int) = laz n q % (M : Int) := Int.tmod_eq_emod_of_nonneg rl.1
          have e2 : IntKind.i64.wrap ((k : Int) * (laz n q % (M : Int))) = (k : Int) * (laz n q % (M : Int)) := IntWalk.i64_in _ (by omega)
          have HF : Hid (fitTo M (laz n) (at0 ds) k (q + 1) = (fitTo M (laz n) (at0 ds) k q && (at0 ds q % (M : Int) == (k : Int) * (laz n q % (M : Int)) % (M : Int)))) := Lib.hid rfl
          generalize at0 ds q = x at cV rd HF
          generalize laz n q = y at cC rl rm hp e1 e2 HF
          generalize hY : y % (M : Int) = Y at rm hp e1 e2 HF
          generalize hZ : (k : Int) * Y = Z at hp e2 HF
          have HZ := Lib.hid hZ
          clear hZ hY
          cases hB : fitTo M (laz n) (at0 ds) k q
          · rw [hB] at HF
            go_wp2_with fail
            go_quiet (fail)
            go_wp2
            exact ⟨⟨q + 1, _, by omega, by go_num, by rw [HF.out]; rfl, (by first | rfl | (simp [World.drewN_drewN]; done))⟩, by simp [intOf]; omega⟩
          · rw [hB] at HF
            have hZ := HZ.out
            go_wp2_with fail
            go_quiet (first | (go_at_call_of 75 (Value.int .i64 x); (first | exact quietA (rfl) (mod_c x M _ (by omega) (by omega) (by omega) (by omega)) | exact quietB (rfl) (mod_c x M _ (by omega) (by omega) (by omega) (by omega)) | exact quietC (rfl) (mod_c x M _ (by omega) (by omega) (by omega) (by omega)) | exact quietD (rfl) (mod_c x M _ (by omega) (by omega) (by omega) (by omega)))) | (go_at_call_of 75 (Value.int .i64 Z); (first | exact quietA (rfl) (mod_c Z M _ (by omega) (by omega) (by omega) (by omega)) | exact quietB (rfl) (mod_c Z M _ (by omega) (by omega) (by omega) (by omega)) | exact quietC (rfl) (mod_c Z M _ (by omega) (by omega) (by omega) (by omega)) | exact quietD (rfl) (mod_c Z M _ (by omega) (by omega) (by omega) (by omega)))))
            go_wp2
            exact ⟨⟨q + 1, _, by omega, by go_num, by rw [HF.out]; rfl, (by first | rfl | (simp [World.drewN_drewN]; done))⟩, by simp [intOf]; omega⟩
        · obtain rfl : q = n + 1 := by omega
          have i1 : ¬ ((n + 1 : Nat) : Int) < (n : Int) + 1 := by omega
          cases hB : fitTo M (laz n) (at0 ds) k (n + 1)
          · have HB := Lib.hid (facTo_f HK.out hB)
            go_wp2
            exact ⟨⟨k + 1, _, by omega, by go_num, rfl, HB⟩, by simp [intOf]; omega⟩
          · have HB := Lib.hid (facP_t HK.out hB (by simp; omega))
            go_wp2
            go_ret
            exact ⟨by rw [HB.out]; rfl, (by (repeat (first | exact Below.refl _ _ | (refine Below.setCell ?_ (by first | (simp; done) | (simp; omega) | omega) _) | (refine Below.alloc ?_ (by first | (simp; done) | (simp; omega) | omega) _) | (refine below_drewN ?_ _) | (refine Below.drew ?_) | (refine Below.trans ?_ (Below.mono hb1 (by first | (simp; done) | (simp; omega) | omega))))))⟩
    · obtain rfl : k = M := by omega
      have HB := Lib.hid (facP_f (m := (k : Int)) (c := laz n) (d := at0 ds) (n := n + 1) (by simpa using HK.out))
      have i1 : ¬ (k : Int) < (k : Int) := by omega
      go_wp2
      go_ret
      exact ⟨by rw [HB.out]; rfl, (by (repeat (first | exact Below.refl _ _ | (refine Below.setCell ?_ (by first | (simp; done) | (simp; omega) | omega) _) | (refine Below.alloc ?_ (by first | (simp; done) | (simp; omega) | omega) _) | (refine below_drewN ?_ _) | (refine Below.drew ?_) | (refine Below.trans ?_ (Below.mono hb1 (by first | (simp; done) | (simp; omega) | omega))))))⟩
end Go.Proofs.Ytoednonijmkbjaa
