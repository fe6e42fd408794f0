/- Lemmas of WittG. -/
import Derived.Test.YtcjinlfgeljmkaaWSWittF
set_option linter.unusedSimpArgs false
set_option linter.unusedVariables false
namespace Go.Proofs.Ytcjinlfgeljmkaa
open Go.RowKit

theorem RB3.put2 {w : World} {b : Nat} {x y z : Value} (h : RB3 w b x y z) (u : Value) : RB3 (w.setCell ⟨b, 2, none⟩ u) b x y u := by
  obtain ⟨⟨h0, h1, h2⟩, hf⟩ := h
  exact ⟨⟨(World.cell?_setCell_other w ⟨b, 2, none⟩ ⟨b, 0, none⟩ u (by simp)).trans h0, (World.cell?_setCell_other w ⟨b, 2, none⟩ ⟨b, 1, none⟩ u (by simp)).trans h1, World.cell?_setCell_same _ _ _ h2⟩, fun k => by rw [World.frozen?_setCell]; exact hf k⟩
theorem RB3.put' {w : World} {b : Nat} {x y z : Value} (h : RB3 w b x y z) {a : Addr} (ha : a.block ≠ b) (u : Value) : RB3 (w.setCell a u) b x y z :=
  ⟨h.1.put ha u, fun k => by rw [World.frozen?_setCell]; exact h.2 k⟩
set_option maxHeartbeats 4000000 in
set_option maxRecDepth 100000 in
theorem ofResidue_c (p n : Nat) (c : Int) (w : World) (hp : P4 p) (h1 : 1 ≤ n) (h4 : n ≤ 4) (hc : 0 ≤ c) (hc' : c ≤ 2401) :
    Calls Try.prog 194 #[.int .i64 p, .int .i64 n, .int .i64 c] w fun e w' => VEnd w w' p p (ofRes p n n c) e := by
  have hpb := hp.bounds
  have p0 : ((p : Int) == 0) = false := by simp; omega
  have p1 : ¬ (p : Int) = 0 := by omega
  go_enter Try.func194, Try.ntmps194
  go_wp2_with fail
  (have R0 := ((RB3.mk1 w  (.int .i64 0) (.int .i64 0) (.slice none 0 0) 59)).below (w' := ((w.alloc (.cells #[.int .i64 0, .int .i64 0, .slice none 0 0] 59)).alloc (.cells #[.int .i64 p, .int .i64 p, .slice none 0 0] 59))) (by (repeat (first | exact Below.refl _ _ | (refine Below.setCell ?_ (by first | (simp; done) | (simp; omega) | omega) _) | (refine Below.alloc ?_ (by first | (simp; done) | (simp; omega) | omega) _) | (refine below_drewN ?_ _) | (refine Below.drew ?_)))) (Nat.le_refl _); have RO0 := ((RB3.mk2 w (.cells #[.int .i64 0, .int .i64 0, .slice none 0 0] 59) (.int .i64 p) (.int .i64 p) (.slice none 0 0) 59)).below (w' := ((w.alloc (.cells #[.int .i64 0, .int .i64 0, .slice none 0 0] 59)).alloc (.cells #[.int .i64 p, .int .i64 p, .slice none 0 0] 59))) (by (repeat (first | exact Below.refl _ _ | (refine Below.setCell ?_ (by first | (simp; done) | (simp; omega) | omega) _) | (refine Below.alloc ?_ (by first | (simp; done) | (simp; omega) | omega) _) | (refine below_drewN ?_ _) | (refine Below.drew ?_)))) (Nat.le_refl _); have B0 : Below w.heap.size w ((w.alloc (.cells #[.int .i64 0, .int .i64 0, .slice none 0 0] 59)).alloc (.cells #[.int .i64 p, .int .i64 p, .slice none 0 0] 59)) := (by (repeat (first | exact Below.refl _ _ | (refine Below.setCell ?_ (by first | (simp; done) | (simp; omega) | omega) _) | (refine Below.alloc ?_ (by first | (simp; done) | (simp; omega) | omega) _) | (refine below_drewN ?_ _) | (refine Below.drew ?_)))); generalize (w.alloc (.cells #[.int .i64 0, .int .i64 0, .slice none 0 0] 59)).alloc (.cells #[.int .i64 p, .int .i64 p, .slice none 0 0] 59) = w0 at R0 RO0 B0  ⊢)
  have hO0 := RO0.1.lt
  have hR0 := R0.1.lt
  go_loopw [2, 15] (fun sc si wr => ∃ (i : Nat) (ci : Int) (l : List Int) (ov : Option Addr) (cv : Nat), i ≤ n ∧ si = .int .i64 i ∧ sc = .int .i64 ci ∧ 0 ≤ ci ∧ ci ≤ 2401 ∧ Hid (l ++ ofRes p n (n - i) ci = ofRes p n n c) ∧ l.length = i ∧ OwI wr w0.heap.size (.slice ov i cv) l ∧ RB3 wr (w.heap.size + 1) (.int .i64 p) (.int .i64 p) (.slice ov i cv) ∧ RB3 wr w.heap.size (.int .i64 0) (.int .i64 0) (.slice none 0 0) ∧ Below w.heap.size w wr ∧ w0.heap.size ≤ wr.heap.size) (fun _ s _ => n - (intOf s).toNat)
  case atStart => exact ⟨0, c, [], none, 0, Nat.zero_le _, rfl, rfl, hc, hc', Lib.hid rfl, rfl, OwI.nil _ _, RO0, R0, B0, Nat.le_refl _⟩
  case round =>
    obtain ⟨i, ci, l, ov, cv, hi, rfl, rfl, hci, hci', HL, hl, hO, hB, hR, hBr, hsz⟩ := hrel
    by_cases hlt : i < n
    · obtain ⟨k, hk⟩ : ∃ k, n - i = k + 1 := ⟨n - i - 1, by omega⟩
      have hkk : n - 1 - i = k := by omega
      have hpp := hp.pow3 (show k + 1 ≤ 4 by omega)
      have hpq := hp.npow (show k ≤ 4 by omega)
      have hpr := hp.pow3 (show k ≤ 4 by omega)
      have HE := Lib.hid (show l ++ ((ci % (p : Int)) :: ofRes p n k ((ci - (ci % (p : Int)) ^ (p ^ k) % (p : Int) ^ (k + 1)) % (p : Int) ^ (k + 1) / (p : Int))) = ofRes p n n c by rw [← HL.out, hk]; rfl)
      clear HL
      have hX := mod_lt' (a := ci) (show 0 < (p : Int) by omega)
      have hXW : (p : Int) ≤ (p : Int) ^ (k + 1) := by
        have := pow_le hpb.1 (show 1 ≤ k + 1 by omega)
        rwa [pow1] at this
      have e1 : ci.tmod (p : Int) = ci % (p : Int) := Int.tmod_eq_emod_of_nonneg hci
      have e2 : IntKind.i64.wrap ((n : Int) - (i : Int)) = (n : Int) - (i : Int) := IntWalk.i64_in _ (by omega)
      generalize hXe : ci % (p : Int) = X at *
      have hPm := mod_lt' (a := X ^ (p ^ k)) (show 0 < (p : Int) ^ (k + 1) by omega)
      have hQm := mod_lt' (a := ci - X ^ (p ^ k)) (show 0 < (p : Int) ^ (k + 1) by omega)
      have hsub : (ci - X ^ (p ^ k) % (p : Int) ^ (k + 1)) % (p : Int) ^ (k + 1) = (ci - X ^ (p ^ k)) % (p : Int) ^ (k + 1) := by rw [Int.sub_emod, Int.emod_emod_of_dvd _ (Int.dvd_refl _), ← Int.sub_emod]
      rw [hsub] at HE
      clear hsub
      have hQd : 0 ≤ (ci - X ^ (p ^ k)) % (p : Int) ^ (k + 1) / (p : Int) := Int.ediv_nonneg hQm.1 (by omega)
      have hQe : (ci - X ^ (p ^ k)) % (p : Int) ^ (k + 1) / (p : Int) ≤ (ci - X ^ (p ^ k)) % (p : Int) ^ (k + 1) := Int.ediv_le_self _ hQm.1
      have e5 : ((ci - X ^ (p ^ k)) % (p : Int) ^ (k + 1)).tdiv (p : Int) = (ci - X ^ (p ^ k)) % (p : Int) ^ (k + 1) / (p : Int) := Int.tdiv_eq_ediv_of_nonneg hQm.1
      obtain ⟨⟨x0, x1, x2⟩, xf⟩ := id hB
      go_wp2_with fail
      go_quiet ((go_at_call 193; (first | exact quietA (rfl) (scale_c _ _ (k + 1) _ (by omega) (by omega) (by omega) (by omega)) | exact quietB (rfl) (scale_c _ _ (k + 1) _ (by omega) (by omega) (by omega) (by omega)) | exact quietC (rfl) (scale_c _ _ (k + 1) _ (by omega) (by omega) (by omega) (by omega)) | exact quietD (rfl) (scale_c _ _ (k + 1) _ (by omega) (by omega) (by omega) (by omega)))))
      clear e1 e2
      clear x0 x1 x2 xf
      have hbd : Below wr.heap.size wr (wr.drewN nq) := below_drewN (Below.refl _ _) _
      have hO2 := hO.below hbd
      have hB2 := hB.below hbd (Nat.le_refl _)
      have hR2 := hR.below hbd (Nat.le_refl _)
      have hBr2 := hBr.trans (hbd.mono hBr.size)
      have hsz2 : w0.heap.size ≤ (wr.drewN nq).heap.size := hsz
      generalize wr.drewN nq = w2 at hO2 hB2 hR2 hBr2 hsz2 ⊢
      clear hbd hO hB hR hBr hsz
      obtain ⟨⟨x0, x1, x2⟩, xf⟩ := id hB2
      go_wp2_with (first
        | (at_builtin; refine apI w2 rfl _ _ rfl w0.heap.size (.slice ov i cv) _ rfl hO2 _ rfl (by omega) hsz2 ?_; intro v3 w3 hO3 hgr hb3 hlt3; clear hgr; obtain ⟨o3, c3, rfl⟩ := hO3.shapeN (n := i + 1) (by simp [hl]); have hB3 := hB2.belowB hb3 hO0; have hR3 := hR2.belowB hb3 hR0; clear x0 x1 x2 xf; obtain ⟨⟨x0, x1, x2⟩, xf⟩ := id hB3)
        | (go_at_call 193; refine (scale_c _ _ k _ (by omega) (by omega) (by omega) (by omega)).mono ?_; rintro e w' ⟨rfl, rfl⟩)
        | (go_at_call 197; refine (power_c _ _ _ (p ^ k) _ (by simp) (by omega) (by omega) (by omega) (by omega) (by omega)).mono ?_; rintro e w' ⟨rfl, rfl⟩)
        | (go_at_call 199; refine (mod_c _ _ _ (by omega) (by omega) (by omega) (by omega)).mono ?_; rintro e w' ⟨rfl, rfl⟩))
      have hO4 := hO3.low (a := ⟨w.heap.size + 1, 2, none⟩) (show w.heap.size + 1 < w0.heap.size by omega) (.slice o3 (i + 1) c3)
      have hB4 := hB3.put2 (.slice o3 (i + 1) c3)
      have hR4 := hR3.put' (a := ⟨w.heap.size + 1, 2, none⟩) (by simp) (.slice o3 (i + 1) c3)
      have B4 : Below w.heap.size w (w3.setCell ⟨w.heap.size + 1, 2, none⟩ (.slice o3 (i + 1) c3)) := below_put (hBr2.trans (hb3.mono (by omega))) (by omega) _
      have hsz4 : w0.heap.size ≤ w3.heap.size := by have := hb3.size; omega
      refine ⟨⟨i + 1, (ci - X ^ (p ^ k)) % (p : Int) ^ (k + 1) / (p : Int), l ++ [X], o3, c3, by omega, by go_num, ?_, hQd, by omega, Lib.hid ?_, by simp [hl], hO4, hB4, hR4, B4, by simpa using hsz4⟩, by simp [intOf]; omega⟩
      · first | rfl | exact congrArg _ (by first | exact IntWalk.i64_in _ (by omega) | (rw [e5]; exact IntWalk.i64_in _ (by omega)))
      · rw [show n - (i + 1) = k by omega, ← HE.out]; simp
    · obtain rfl : i = n := by omega
      have hl2 : l = ofRes p i i c := by
        have := HL.out
        rw [Nat.sub_self] at this
        simpa [ofRes] using this
      subst hl2
      obtain ⟨⟨x0, x1, x2⟩, xf⟩ := id hB
      obtain ⟨⟨r0, r1, r2⟩, rf⟩ := id hR
      go_wp2
      refine bodyPost_ret (v := .agg #[.int .i64 p, .int .i64 p, .slice ov i cv]) (by simp [results, Try.results194, go_sem, r0, r1, r2]) rfl ⟨_, rfl, ?_, ?_⟩
      · exact (((hO.low (show w.heap.size < w0.heap.size by omega) _).low (show w.heap.size < w0.heap.size by omega) _).low (show w.heap.size < w0.heap.size by omega) _).mono (by omega)
      · (repeat (first | exact Below.refl _ _ | (refine Below.setCell ?_ (by first | (simp; done) | (simp; omega) | omega) _) | (refine Below.alloc ?_ (by first | (simp; done) | (simp; omega) | omega) _) | (refine below_drewN ?_ _) | (refine Below.drew ?_) | (refine Below.trans ?_ (Below.mono hBr (by first | (simp; done) | (simp; omega) | omega)))))

def wresR (p n c : Int) : WR := if shapeB p p n && inB c 0 (p ^ n.toNat - 1) then ⟨p, p, FL p.toNat p n.toNat (fun _ => c), 0⟩ else WR.bad 2

set_option maxHeartbeats 2000000 in
set_option maxRecDepth 100000 in
theorem sWittOfResidue_c (p n c : Int) (w : World) :
    Calls Try.prog 88 #[.int .i64 p, .int .i64 n, .int .i64 c] w fun e w' => WEnd w w' (wresR p n c) e := by
  cases hs : shapeB p p n
  · have hR : wresR p n c = WR.bad 2 := by simp [wresR, hs]
    rw [hR]
    go_enter Try.func88, Try.ntmps88
    go_wp2_with (go_at_call 190; refine (l13Kind_c _ _ _ _).mono ?_; rw [hs]; rintro e w' ⟨rfl, rfl⟩)
    exact bodyPost_ret (v := .tuple #[.agg #[.int .i64 0, .int .i64 0, .slice none 0 0], .int .i64 2]) (by simp [results, Try.results88, go_sem]) rfl ⟨_, rfl, OwI.nil _ _, (by (repeat (first | exact Below.refl _ _ | (refine Below.setCell ?_ (by first | (simp; done) | (simp; omega) | omega) _) | (refine Below.alloc ?_ (by first | (simp; done) | (simp; omega) | omega) _) | (refine below_drewN ?_ _) | (refine Below.drew ?_)))), by simp [WR.bad]⟩
  · obtain ⟨q, rfl, hp⟩ := prime_nat (shape_p hs)
    have hm := shape_m hs
    have hn := shape_n hs
    have hpb := hp.bounds
    obtain ⟨n, rfl⟩ := Int.eq_ofNat_of_zero_le (show 0 ≤ n by omega)
    have hpp := hp.pow3 (show n ≤ 4 by omega)
    cases hq : inB c 0 ((q : Int) ^ n - 1)
    · have hR : wresR q n c = WR.bad 2 := by simp [wresR, hq]
      rw [hR]
      go_enter Try.func88, Try.ntmps88
      go_wp2_with (first | (go_at_call 190; refine (l13Kind_c _ _ _ _).mono ?_; rw [hs]; rintro e w' ⟨rfl, rfl⟩) | (go_at_call 195; refine (l13Raise_c _ _ n _ (by omega) (by omega) (by omega) (by omega)).mono ?_; rintro e w' ⟨rfl, rfl⟩) | (go_at_call 141; refine (l01In_c _ _ _ _).mono ?_; rw [hq]; rintro e w' ⟨rfl, rfl⟩))
      exact bodyPost_ret (v := .tuple #[.agg #[.int .i64 0, .int .i64 0, .slice none 0 0], .int .i64 2]) (by simp [results, Try.results88, go_sem]) rfl ⟨_, rfl, OwI.nil _ _, (by (repeat (first | exact Below.refl _ _ | (refine Below.setCell ?_ (by first | (simp; done) | (simp; omega) | omega) _) | (refine Below.alloc ?_ (by first | (simp; done) | (simp; omega) | omega) _) | (refine below_drewN ?_ _) | (refine Below.drew ?_)))), by simp [WR.bad]⟩
    · have hcb := inB_t hq
      have hR : wresR q n c = ⟨q, q, FL q q n (fun _ => c), 0⟩ := by simp [wresR, hq, hs]
      rw [hR]
      have HO := Lib.hid (ofRes_FL hp (show 0 < n by omega) (G := fun _ => c) (const_ex hp c n) rfl)
      go_enter Try.func88, Try.ntmps88
      go_wp2_with (first | (go_at_call 190; refine (l13Kind_c _ _ _ _).mono ?_; rw [hs]; rintro e w' ⟨rfl, rfl⟩) | (go_at_call 195; refine (l13Raise_c _ _ n _ (by omega) (by omega) (by omega) (by omega)).mono ?_; rintro e w' ⟨rfl, rfl⟩) | (go_at_call 141; refine (l01In_c _ _ _ _).mono ?_; rw [hq]; rintro e w' ⟨rfl, rfl⟩))
      have R0 := RB3.mk1 w (.int .i64 0) (.int .i64 0) (.slice none 0 0) 59
      have B0 : Below w.heap.size w (w.alloc (.cells #[.int .i64 0, .int .i64 0, .slice none 0 0] 59)) := (by (repeat (first | exact Below.refl _ _ | (refine Below.setCell ?_ (by first | (simp; done) | (simp; omega) | omega) _) | (refine Below.alloc ?_ (by first | (simp; done) | (simp; omega) | omega) _) | (refine below_drewN ?_ _) | (refine Below.drew ?_))))
      generalize w.alloc (.cells #[.int .i64 0, .int .i64 0, .slice none 0 0] 59) = w0 at R0 B0 ⊢
      refine (l13Integer_c q q c n _ hp hm.1 hm.2 (by omega) (by omega) (by omega) (by omega)).mono ?_
      rintro e w1 ⟨v1, rfl, how, hb⟩
      have hdum := hb.size
      obtain ⟨o1, c1, rfl⟩ := how.shapeN (n := n) (FL_len _ _ _ _)
      (have R1 := R0.below hb (Nat.le_refl _); have B1 := B0.trans (hb.mono B0.size))
      have hz := R1.1.lt
      have hz0 := R0.1.lt
      obtain ⟨⟨r0, r1, r2⟩, rf⟩ := id R1
      go_wp2
      refine bodyPost_ret (v := .tuple #[.agg #[.int .i64 q, .int .i64 q, .slice o1 n c1], .int .i64 0]) (by simp [results, Try.results88, go_sem, r0, r1, r2]) rfl ⟨_, rfl, ?_, ?_, by rw [FL_len]; omega⟩
      · exact (((how.low hz0 _).low hz0 _).low hz0 _).mono (by omega)
      · (repeat (first | exact Below.refl _ _ | (refine Below.setCell ?_ (by first | (simp; done) | (simp; omega) | omega) _) | (refine Below.alloc ?_ (by first | (simp; done) | (simp; omega) | omega) _) | (refine below_drewN ?_ _) | (refine Below.drew ?_) | (refine Below.trans ?_ (Below.mono B1 (by first | (simp; done) | (simp; omega) | omega)))))
set_option maxHeartbeats 2000000 in
set_option maxRecDepth 100000 in
theorem WittOfResidue_c (p n c : Int) (w : World) :
    Calls Try.prog 87 #[.int .i64 p, .int .i64 n, .int .i64 c] w fun e w' => WEnd w w' (wresR p n c) e := by
  cases hs : shapeB p p n
  · have hR : wresR p n c = WR.bad 2 := by simp [wresR, hs]
    rw [hR]
    go_enter Try.func87, Try.ntmps87
    go_wp2_with (go_at_call 176; refine (isShape_c _ _ _ _).mono ?_; rw [hs]; rintro e w' ⟨rfl, rfl⟩)
    exact bodyPost_ret (v := .tuple #[.agg #[.int .i64 0, .int .i64 0, .slice none 0 0], .int .i64 2]) (by simp [results, Try.results87, go_sem]) rfl ⟨_, rfl, OwI.nil _ _, (by (repeat (first | exact Below.refl _ _ | (refine Below.setCell ?_ (by first | (simp; done) | (simp; omega) | omega) _) | (refine Below.alloc ?_ (by first | (simp; done) | (simp; omega) | omega) _) | (refine below_drewN ?_ _) | (refine Below.drew ?_)))), by simp [WR.bad]⟩
  · obtain ⟨q, rfl, hp⟩ := prime_nat (shape_p hs)
    have hm := shape_m hs
    have hn := shape_n hs
    have hpb := hp.bounds
    obtain ⟨n, rfl⟩ := Int.eq_ofNat_of_zero_le (show 0 ≤ n by omega)
    have hpp := hp.pow3 (show n ≤ 4 by omega)
    cases hq : inB c 0 ((q : Int) ^ n - 1)
    · have hR : wresR q n c = WR.bad 2 := by simp [wresR, hq]
      rw [hR]
      go_enter Try.func87, Try.ntmps87
      go_wp2_with (first | (go_at_call 176; refine (isShape_c _ _ _ _).mono ?_; rw [hs]; rintro e w' ⟨rfl, rfl⟩) | (go_at_call 193; refine (scale_c _ _ n _ (by omega) (by omega) (by omega) (by omega)).mono ?_; rintro e w' ⟨rfl, rfl⟩) | (go_at_call 107; refine (in_c _ _ _ _).mono ?_; rw [hq]; rintro e w' ⟨rfl, rfl⟩))
      exact bodyPost_ret (v := .tuple #[.agg #[.int .i64 0, .int .i64 0, .slice none 0 0], .int .i64 2]) (by simp [results, Try.results87, go_sem]) rfl ⟨_, rfl, OwI.nil _ _, (by (repeat (first | exact Below.refl _ _ | (refine Below.setCell ?_ (by first | (simp; done) | (simp; omega) | omega) _) | (refine Below.alloc ?_ (by first | (simp; done) | (simp; omega) | omega) _) | (refine below_drewN ?_ _) | (refine Below.drew ?_)))), by simp [WR.bad]⟩
    · have hcb := inB_t hq
      have hR : wresR q n c = ⟨q, q, FL q q n (fun _ => c), 0⟩ := by simp [wresR, hq, hs]
      rw [hR]
      have HO := Lib.hid (ofRes_FL hp (show 0 < n by omega) (G := fun _ => c) (const_ex hp c n) rfl)
      go_enter Try.func87, Try.ntmps87
      go_wp2_with (first | (go_at_call 176; refine (isShape_c _ _ _ _).mono ?_; rw [hs]; rintro e w' ⟨rfl, rfl⟩) | (go_at_call 193; refine (scale_c _ _ n _ (by omega) (by omega) (by omega) (by omega)).mono ?_; rintro e w' ⟨rfl, rfl⟩) | (go_at_call 107; refine (in_c _ _ _ _).mono ?_; rw [hq]; rintro e w' ⟨rfl, rfl⟩))
      have R0 := RB3.mk1 w (.int .i64 0) (.int .i64 0) (.slice none 0 0) 59
      have B0 : Below w.heap.size w (w.alloc (.cells #[.int .i64 0, .int .i64 0, .slice none 0 0] 59)) := (by (repeat (first | exact Below.refl _ _ | (refine Below.setCell ?_ (by first | (simp; done) | (simp; omega) | omega) _) | (refine Below.alloc ?_ (by first | (simp; done) | (simp; omega) | omega) _) | (refine below_drewN ?_ _) | (refine Below.drew ?_))))
      generalize w.alloc (.cells #[.int .i64 0, .int .i64 0, .slice none 0 0] 59) = w0 at R0 B0 ⊢
      refine (ofResidue_c q n c _ hp (by omega) (by omega) (by omega) (by omega)).mono ?_
      rintro e w1 ⟨v1, rfl, how, hb⟩
      rw [HO.out] at how
      obtain ⟨o1, c1, rfl⟩ := how.shapeN (n := n) (FL_len _ _ _ _)
      (have R1 := R0.below hb (Nat.le_refl _); have B1 := B0.trans (hb.mono B0.size))
      have hz := R1.1.lt
      have hz0 := R0.1.lt
      obtain ⟨⟨r0, r1, r2⟩, rf⟩ := id R1
      go_wp2
      refine bodyPost_ret (v := .tuple #[.agg #[.int .i64 q, .int .i64 q, .slice o1 n c1], .int .i64 0]) (by simp [results, Try.results87, go_sem, r0, r1, r2]) rfl ⟨_, rfl, ?_, ?_, by rw [FL_len]; omega⟩
      · exact (((how.low hz0 _).low hz0 _).low hz0 _).mono (by omega)
      · (repeat (first | exact Below.refl _ _ | (refine Below.setCell ?_ (by first | (simp; done) | (simp; omega) | omega) _) | (refine Below.alloc ?_ (by first | (simp; done) | (simp; omega) | omega) _) | (refine below_drewN ?_ _) | (refine Below.drew ?_) | (refine Below.trans ?_ (Below.mono B1 (by first | (simp; done) | (simp; omega) | omega)))))

end Go.Proofs.Ytcjinlfgeljmkaa
