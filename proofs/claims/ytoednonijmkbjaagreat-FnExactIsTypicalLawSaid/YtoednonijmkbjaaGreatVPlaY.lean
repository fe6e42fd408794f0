/- Lemmas of PlaY. -/
import Derived.Test.YtoednonijmkbjaaGreatVPlaU
import Derived.Test.YtoednonijmkbjaaGreatVPlaV
import Derived.Test.YtoednonijmkbjaaGreatVPlaX
import Derived.Test.YtoednonijmkbjaaGreatVG1
set_option linter.unusedSimpArgs false
set_option linter.unusedVariables false
namespace Go.Proofs.YtoednonijmkbjaaGreat
open Go.RowKit

theorem addcT_plus {m : Int} (hm : 0 < m) {n : Nat} {t : List (List Int)} (ht : PlaT m n t) (c : Int) :
    tri n (fun i j => (atT t i j + atT (numbT m c n) i j) % m) = addcT m c n t := tri_ext fun i j h => by
  unfold numbT
  rw [atT_tri h]
  by_cases e : i = 0 ∧ j = 0
  · rw [if_pos e, if_pos e]
    obtain ⟨rfl, rfl⟩ := e
    rw [Int.add_emod, Int.emod_emod_of_dvd _ (Int.dvd_refl m), ← Int.add_emod]
  · rw [if_neg e, if_neg e, Int.add_zero]
    obtain ⟨-, -, -, -, h1, h2⟩ := ht.at h
    exact Int.emod_eq_of_lt h1 h2
theorem addcT_set {m : Int} {n : Nat} {t : List (List Int)} (hn : 0 < n) (ht : PlaT m n t) (c : Int) {row : List Int} (hr : t[0]? = some row) : t.set 0 (row.set 0 ((atT t 0 0 + c) % m)) = addcT m c n t := by
  have e : t = tri n (atT t) := tri_eq ht.1 (fun i hi => by rw [(ht.2 i hi).1, ht.1])
  have e2 : row = mk (n - 0) (atT t 0) := by
    rw [e, tri_get hn] at hr
    exact (Option.some.inj hr).symm
  have key : (tri n (atT t)).set 0 ((mk (n - 0) (atT t 0)).set 0 ((atT t 0 0 + c) % m)) = addcT m c n t := by
    rw [tri_set (f := atT t) (by omega)]; rfl
  rw [← e] at key
  rw [e2]
  exact key

set_option maxHeartbeats 4000000 in
set_option maxRecDepth 100000 in
theorem l03After_c (m : Int) (n : Nat) (v u : Value) (xs : List Int) (yss : List (List Int)) (w : World) (hv : RdI w v xs) (hu : RdT w u yss) (h1 : 1 ≤ n) (hn : n ≤ 1000) (hm : 2 ≤ m) (hm' : m ≤ 3000000000)
    (hxl : xs.length ≤ 1048576) (hx : ∀ x ∈ xs, 0 ≤ x ∧ x < m) (hy : PlaT m n yss) :
    Calls Tryz.prog 89 #[.int .i64 m, v, u] w fun e w' => ∃ v', e = .returned v' ∧ OwS w' w.heap.size v' (hornT m n yss xs) ∧ Below w.heap.size w w' := by
  obtain ⟨o, c, rfl, hmx, -⟩ := id hv
  obtain ⟨o', c', rfl, hmy, -⟩ := id hu
  have HY := Lib.hid hy
  have hu' : RdT w (.slice o' n c') yss := by rw [hy.1] at hu; exact hu
  rw [hy.1] at hmy ⊢
  unfold maxLen at hmx hmy
  clear hu hy
  have m0 : (m == 0) = false := by simp; omega
  have m1 : ¬ m = 0 := by omega
  go_enter Tryz.func89, Tryz.ntmps89
  go_wp2_with (go_at_call 79; refine (l03Zero_c ((n : Int) - 1) n _ rfl hn).mono ?_; rintro e w2 ⟨vz, rfl, how, B2⟩; obtain ⟨oz, cz, rfl⟩ := how.shapeN (n := n) (zeroT_len n))
  go_loopw [7, 8, 9] (fun s i _ wr => ∃ (j : Nat) (ov : Option Addr) (cv : Nat), j ≤ xs.length ∧ i = .int .i64 ((j : Int) - 1) ∧ s = .slice ov n cv ∧ OwS wr w.heap.size (.slice ov n cv) (hornT m n yss (xs.drop j)) ∧ Below w.heap.size w wr) (fun _ i _ _ => ((intOf i) + 1).toNat)
  case atStart => exact ⟨xs.length, oz, cz, Nat.le_refl _, rfl, rfl, by rw [List.drop_length]; exact how, B2⟩
  case round =>
    obtain ⟨j, ov, cv, hj, rfl, rfl, hO, hB⟩ := hrel
    have hBs := hB.size
    by_cases hlt : 0 < j
    · obtain ⟨k, rfl⟩ : ∃ k, j = k + 1 := ⟨j - 1, by omega⟩
      have ek : (((k + 1 : Nat) : Int)) - 1 = (k : Int) := by omega
      rw [ek]
      clear ek
      have HS := Lib.hid (hornT_drop (m := m) (n := n) (t := yss) (some_at0 (show k < xs.length by omega)))
      have HO := Lib.hid (hornT_ok (m := m) (show 0 < m by omega) n yss (xs.drop (k + 1)))
      generalize hornT m n yss (xs.drop (k + 1)) = l at hO HS HO
      have hkx := at0_range (by omega) hx k
      obtain ⟨bx, fx, rfl, -⟩ := hv.cells (by omega)
      have i0 : (0 : Int) ≤ (k : Int) := by omega
      have i1 : (k : Int) < (xs.length : Int) := by omega
      have i2 : (0 : Int) < (n : Int) := by omega
      have i3 : 0 < n := by omega
      have HT := Lib.hid (timesT_ok (m := m) (show 0 < m by omega) n l yss)
      have HTl := Lib.hid (timesT_len m n l yss)
      generalize hTT : timesT m n l yss = T at HS HT HTl
      have hTT2 := Lib.hid hTT
      clear hTT
      go_wp2_with (go_at_call 124; refine (l03Times_c m n _ _ l yss wr hO.rd (hu'.below hB (Nat.le_refl _)) h1 hn hm hm' HO.out HY.out).mono ?_; rw [hTT2.out]; rintro e w3 ⟨v3, rfl, how3, hb3⟩; obtain ⟨o3, c3, rfl⟩ := how3.shapeN (n := n) HTl.out; obtain ⟨us, how3⟩ := how3.toR.named; obtain ⟨g, rfl, hgl, hgl'⟩ := how3.row (by omega); obtain ⟨r0, hr0, hrl, hrj⟩ := HT.out.row i3; obtain ⟨o4, c4, hu4, cx4, how4, hbl4, hset4⟩ := how3.at hr0; rw [hrl] at hu4 cx4 how4 hbl4 hset4; have HR0 := Lib.hid hr0; have HRJ := Lib.hid hrj; have HRL := Lib.hid hrl; clear hr0 hrj hrl; obtain ⟨gr, rfl, hgr1, hgr2⟩ := how4.row (by omega))
      have HX0 := hbl4 gr rfl
      have hc0 := how4.cell (k := 0) (HRJ.out 0 (by omega))
      have hf0 := how4.fz 0
      obtain ⟨-, -, -, -, ht0, ht1⟩ := HT.out.at (i := 0) (j := 0) (by omega)
      have B3 := hB.trans (hb3.mono hBs)
      have cx := (hv.below B3 (Nat.le_refl _)).cell0 (some_at0 (show k < xs.length by omega))
      have i4 : (0 : Int) < ((n - 0 : Nat) : Int) := by omega
      have hMod := mod_lt' (a := atT T 0 0 + at0 xs k) (show 0 < m by omega)
      have hN := Lib.hid how4
      have hS4 := Lib.hid hset4
      clear how4 hset4 hu4
      go_wp2_with fail
      have e1 : IntKind.i64.wrap (atT T 0 0 + at0 xs k) = atT T 0 0 + at0 xs k := IntWalk.i64_in _ (by omega)
      have e2 : (atT T 0 0 + at0 xs k).tmod m = (atT T 0 0 + at0 xs k) % m := Int.tmod_eq_emod_of_nonneg (by omega)
      go_still_tail 12, (by kernel_rfl)
      change wpList _ _ _ _ _ w3.drew
      have hg0 := gr_put (World.grownBy.refl w3 (some gr)) 0 (.int .i64 ((atT T 0 0 + at0 xs k) % m))
      have hOn := hS4.out _ _ (by rw [List.length_set, HRL.out]) hg0 (hN.out.put 0 ((atT T 0 0 + at0 xs k) % m))
      rw [addcT_set i3 HT.out _ HR0.out, ← HS.out] at hOn
      have Bn := below_put B3 (g := gr) (k := 0) (by omega) (.int .i64 ((atT T 0 0 + at0 xs k) % m))
      go_wp2
      exact ⟨⟨k, _, _, by omega, by go_num, rfl, hOn.r.ow.mono hBs, Bn.drew⟩, by simp [intOf]⟩
    · obtain rfl : j = 0 := by omega
      rw [List.drop_zero] at hO
      go_wp2
      go_ret
      exact ⟨_, rfl, hO, hB⟩

end Go.Proofs.YtoednonijmkbjaaGreat
