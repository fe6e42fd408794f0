/- Lemmas of CrvU. -/
import Derived.Test.YtdnkadlondediaaQbCrv
import Derived.Test.YtdnkadlondediaaQbCurv
import Derived.Test.YtdnkadlondediaaQbOpp
import Derived.Test.YtdnkadlondediaaQbG1
import Derived.Test.YtdnkadlondediaaQbInv
set_option linter.unusedSimpArgs false
set_option linter.unusedVariables false
namespace Go.Proofs.Ytdnkadlondediaa
open Go.RowKit

def crdR (m : Int) (t : List (List Int)) (m1 : Int) (xs : List Int) : LR := if curC m t [(m1, xs)] = 0 then ⟨cuL m t.length t xs (t.length - 1), 0⟩ else ⟨[], curC m t [(m1, xs)]⟩
def cuI (m : Int) (n : Nat) (t : List (List Int)) (xs : List Int) (k : Nat) : List Int := mk k (fun i => at0 (cuA m n t xs i) (i + 1))
theorem cuI_len (m : Int) (n : Nat) (t : List (List Int)) (xs : List Int) (k : Nat) : (cuI m n t xs k).length = k := mk_len _ _
theorem crd_good {m : Int} {t : List (List Int)} {m1 : Int} {xs : List Int} (hc : curC m t [(m1, xs)] = 0) : m1 = m ∧ xs.length = t.length ∧ at0 xs 0 = 0 ∧ lawB m t = true ∧ (∀ x ∈ xs, 0 ≤ x ∧ x < m) ∧ PlaT m t.length t ∧ 2 ≤ m ∧ m ≤ 10000 ∧ 2 ≤ t.length ∧ t.length ≤ 11 := by
  obtain ⟨a1, a2⟩ := curC_0 hc
  obtain ⟨s1, e1, l1, z1⟩ := a2 (m1, xs) (by simp)
  have hp := (lawB_t a1).1
  have hn := pla_n hp
  have hm := pla_m hp
  have e1 : m1 = m := e1
  subst e1
  exact ⟨rfl, l1, z1, a1, ser_x s1, ⟨rfl, pla_row hp⟩, hm.1, hm.2, hn.1, hn.2⟩
theorem crd_eq {m : Int} {t : List (List Int)} {m1 : Int} {xs : List Int} (hc : curC m t [(m1, xs)] = 0) : cuI m t.length t xs (t.length - 1) = cuL m t.length t xs (t.length - 1) := by
  obtain ⟨-, h2, h3, h4, h5, h6, h7, -, h9, -⟩ := crd_good hc
  exact (coord_eq (by omega) (lw_of h9 h6 (lawB_t h4).2) h6 h3 h2 h5).symm

set_option maxHeartbeats 2000000 in
set_option maxRecDepth 100000 in
theorem CoordinatesUnder_c (m : Int) (v : Value) (t : List (List Int)) (m1 : Int) (u : Value) (xs : List Int) (w : World) (hv : RdT w v t) (hu : RdI w u xs) :
    Calls Try.prog 36 #[.agg #[.int .i64 m, v], .agg #[.int .i64 m1, u]] w fun e w' => LEnd w w' (crdR m t m1 xs) e := by
  obtain ⟨o, c, rfl, hmt, -⟩ := id hv
  obtain ⟨o1, c1, rfl, hmu, -⟩ := id hu
  have hml := hmt.1
  by_cases hc : curC m t [(m1, xs)] = 0
  · obtain ⟨e1, l1, z1, a1, hx, ht, hm, hm', hn, hn'⟩ := crd_good hc
    subst e1
    have hR : crdR m1 t m1 xs = ⟨cuI m1 t.length t xs (t.length - 1), 0⟩ := by simp [crdR, hc, crd_eq hc]
    rw [hR]
    have HC := Lib.hid hc
    have HT := Lib.hid ht
    have HLX := Lib.hid l1
    have HX := Lib.hid hx
    have hcc : ((0 : Int) != 0) = false := by simp
    have hlen : (cuI m1 t.length t xs (t.length - 1)).length ≤ 1048576 := by rw [cuI_len]; omega
    have hu2 : RdI w (.slice o1 t.length c1) xs := by rw [l1] at hu; exact hu
    clear hc hR a1 z1 hx ht hmt hmu hu
    rw [l1]
    clear l1
    go_enter Try.func36, Try.ntmps36
    go_wp2_with fail
    (have X0 := ((RB2.mk1 w  (.int .i64 m1) (.slice o t.length c) 32).1).below (w' := ((w.alloc (.cells #[.int .i64 m1, .slice o t.length c] 32)).alloc (.cells #[.int .i64 m1, .slice o1 t.length c1] 34))) (by (repeat (first | exact Below.refl _ _ | (refine Below.setCell ?_ (by first | (simp; done) | (simp; omega) | omega) _) | (refine Below.alloc ?_ (by first | (simp; done) | (simp; omega) | omega) _) | (refine below_drewN ?_ _) | (refine Below.drew ?_)))) (Nat.le_refl _); have RY0 := ((RB2.mk2 w (.cells #[.int .i64 m1, .slice o t.length c] 32) (.int .i64 m1) (.slice o1 t.length c1) 34)).below (w' := ((w.alloc (.cells #[.int .i64 m1, .slice o t.length c] 32)).alloc (.cells #[.int .i64 m1, .slice o1 t.length c1] 34))) (by (repeat (first | exact Below.refl _ _ | (refine Below.setCell ?_ (by first | (simp; done) | (simp; omega) | omega) _) | (refine Below.alloc ?_ (by first | (simp; done) | (simp; omega) | omega) _) | (refine below_drewN ?_ _) | (refine Below.drew ?_)))) (Nat.le_refl _); have B0 : Below w.heap.size w ((w.alloc (.cells #[.int .i64 m1, .slice o t.length c] 32)).alloc (.cells #[.int .i64 m1, .slice o1 t.length c1] 34)) := (by (repeat (first | exact Below.refl _ _ | (refine Below.setCell ?_ (by first | (simp; done) | (simp; omega) | omega) _) | (refine Below.alloc ?_ (by first | (simp; done) | (simp; omega) | omega) _) | (refine below_drewN ?_ _) | (refine Below.drew ?_)))); have hv0 := hv.below (w' := ((w.alloc (.cells #[.int .i64 m1, .slice o t.length c] 32)).alloc (.cells #[.int .i64 m1, .slice o1 t.length c1] 34))) (by (repeat (first | exact Below.refl _ _ | (refine Below.setCell ?_ (by first | (simp; done) | (simp; omega) | omega) _) | (refine Below.alloc ?_ (by first | (simp; done) | (simp; omega) | omega) _) | (refine below_drewN ?_ _) | (refine Below.drew ?_)))) (Nat.le_refl _); have hu20 := hu2.below (w' := ((w.alloc (.cells #[.int .i64 m1, .slice o t.length c] 32)).alloc (.cells #[.int .i64 m1, .slice o1 t.length c1] 34))) (by (repeat (first | exact Below.refl _ _ | (refine Below.setCell ?_ (by first | (simp; done) | (simp; omega) | omega) _) | (refine Below.alloc ?_ (by first | (simp; done) | (simp; omega) | omega) _) | (refine below_drewN ?_ _) | (refine Below.drew ?_)))) (Nat.le_refl _); have HS0 := Lib.hid (show ((w.alloc (.cells #[.int .i64 m1, .slice o t.length c] 32)).alloc (.cells #[.int .i64 m1, .slice o1 t.length c1] 34)).heap.size = w.heap.size + 1 + 1 by simp); generalize (w.alloc (.cells #[.int .i64 m1, .slice o t.length c] 32)).alloc (.cells #[.int .i64 m1, .slice o1 t.length c1] 34) = w0 at X0 RY0 B0 hv0 hu20 HS0 ⊢)
    obtain ⟨x0, x1⟩ := id X0
    obtain ⟨⟨y0, y1⟩, yf⟩ := id RY0
    go_wp2_with fail
    have hzb : Below w0.heap.size w0 (w0.alloc (.cells #[.int .i64 m1, .slice o1 t.length c1] 34)) := (by (repeat (first | exact Below.refl _ _ | (refine Below.setCell ?_ (by first | (simp; done) | (simp; omega) | omega) _) | (refine Below.alloc ?_ (by first | (simp; done) | (simp; omega) | omega) _) | (refine below_drewN ?_ _) | (refine Below.drew ?_))))
    have HL2 := Lib.hid (RdM.lit1c w0 HS0.out m1 _ xs hu20)
    refine (curved_c m1 _ _ t [(m1, xs)] _ (hv0.below hzb (Nat.le_refl _)) HL2.out).mono ?_
    clear hzb HL2
    rw [HC.out]
    rintro e w1 ⟨rfl, hb⟩
    have hb := (show Below w0.heap.size w0 w1 from (by (repeat (first | exact Below.refl _ _ | (refine Below.setCell ?_ (by first | (simp; done) | (simp; omega) | omega) _) | (refine Below.alloc ?_ (by first | (simp; done) | (simp; omega) | omega) _) | (refine below_drewN ?_ _) | (refine Below.drew ?_) | (refine Below.trans ?_ (Below.mono hb (by first | (simp; done) | (simp; omega) | omega)))))))
    clear x0 x1 y0 y1 yf HS0
    (have X1 := X0.below hb (Nat.le_refl _); have RY1 := RY0.below hb (Nat.le_refl _); have hv1 := hv0.below hb (Nat.le_refl _); have hu21 := hu20.below hb (Nat.le_refl _); have B1 := B0.trans (hb.mono B0.size))
    clear hb
    have B1s := B1.size
    have hRd : Rds 0 w.heap.size w1 (fun x => RdI x (.slice o1 t.length c1) xs) := (RdI.rds hu2).belowB B1 (Nat.le_refl _)
    have lX := X1.lt
    have lY := RY1.1.lt
    go_wp2_with fail
    have O1 := OwI.lit w1 [] (by decide)
    have hb2 : Below w1.heap.size w1 (w1.alloc (.cells #[] 2)) := (by (repeat (first | exact Below.refl _ _ | (refine Below.setCell ?_ (by first | (simp; done) | (simp; omega) | omega) _) | (refine Below.alloc ?_ (by first | (simp; done) | (simp; omega) | omega) _) | (refine below_drewN ?_ _) | (refine Below.drew ?_))))
    simp at O1
    have RY2 := RY1.below hb2 (Nat.le_refl _)
    have hRd2 := hRd.below hb2
    have G2 : w1.grownBy (w1.alloc (.cells #[] 2)) (some (w.heap.size + 1)) := World.grownBy.mk hb2.os hb2.tape hb2.output hb2.size (fun k hk _ => hb2.block k hk)
    have hb2s := hb2.size
    clear hb2
    generalize w1.alloc (.cells #[] 2) = w2 at O1 RY2 hRd2 G2 hb2s ⊢
    go_loopw [7, 8] (fun l i wr => ∃ (k : Nat) (ov : Option Addr) (cv lo hi : Nat), k + 1 ≤ t.length ∧ i = .int .i64 ((k : Int) + 1) ∧ OwI wr w1.heap.size l (cuI m1 t.length t xs k) ∧ RB2 wr (w.heap.size + 1) (.int .i64 m1) (.slice ov t.length cv) ∧ Rds lo hi wr (fun x => RdI x (.slice ov t.length cv) (cuA m1 t.length t xs k)) ∧ (w.heap.size + 1 < lo ∨ hi ≤ w.heap.size + 1) ∧ (∀ g, l.ownBlock = some g → g < lo ∨ hi ≤ g) ∧ w1.grownBy wr (some (w.heap.size + 1))) (fun _ i _ => t.length - (intOf i).toNat)
    case atStart => exact ⟨0, o1, c1, 0, w.heap.size, by omega, by go_num, O1, RY2, hRd2, by omega, fun g hg => by have := (O1.lt g hg).1; omega, G2⟩
    case round =>
      clear O1 RY2 hRd2 G2 hb2s
      obtain ⟨k, ov, cv, lo, hi, hk, rfl, hO, RYr, hrd, hlo, hlh, hg⟩ := hrel
      have hgs := hg.size
      have Xr := X1.grown hg (by intro e; injection e with e; omega)
      have Br := below_gr B1 hg (by omega) B1s
      have hvr := hv.below Br (Nat.le_refl _)
      obtain ⟨x0, x1⟩ := id Xr
      obtain ⟨⟨y0, y1⟩, yf⟩ := id RYr
      obtain ⟨ol, cl, rfl⟩ := hO.shapeN (n := k) (cuI_len _ _ _ _ _)
      have ek : IntKind.i64.wrap ((k : Int) + 1) = (k : Int) + 1 := IntWalk.i64_in _ (by omega)
      have ed : IntKind.i64.wrap ((t.length : Int) - 1) = (t.length : Int) - 1 := IntWalk.i64_in _ (by omega)
      go_wp2_with fail
      refine (degreeP_c m1 o t.length c _ hml).mono ?_
      rintro e w3 ⟨rfl, hb3⟩
      clear x0 x1 y0 y1 yf
      have hb3s := hb3.size
      have Xq := Xr.below hb3 (Nat.le_refl _)
      have RYq := RYr.below hb3 (Nat.le_refl _)
      have hrq := hrd.below hb3
      have hOq := hO.below hb3
      have hgq := gr_below hg hb3
      clear hb3 Xr RYr hrd hO hg
      by_cases hlt : k + 1 < t.length
      · have i1 : (k : Int) + 1 ≤ (t.length : Int) - 1 := by omega
        have i0 : (0 : Int) ≤ (k : Int) + 1 := by omega
        have i2 : (k : Int) + 1 < (t.length : Int) := by omega
        have i3 : ((k : Int) + 1).toNat = k + 1 := by omega
        have hq := hrq.now
        have HAl := Lib.hid (cuA_len (m := m1) (t := t) HLX.out k)
        have HAr := Lib.hid (cuA_range (m := m1) (n := t.length) (t := t) (by omega) HX.out k)
        have HSI := Lib.hid (show cuI m1 t.length t xs (k + 1) = cuI m1 t.length t xs k ++ [at0 (cuA m1 t.length t xs k) (k + 1)] from mk_snoc _ _)
        have HSA := Lib.hid (show putL m1 t.length t (cuA m1 t.length t xs k) (horn m1 t.length (monL t.length (k + 1) (at0 (cuA m1 t.length t xs k) (k + 1))) (invL m1 t.length t)) = cuA m1 t.length t xs (k + 1) from rfl)
        have HIl := Lib.hid (cuI_len m1 t.length t xs k)
        generalize cuA m1 t.length t xs k = q at hq hrq HAl HAr HSI HSA
        generalize cuI m1 t.length t xs k = qi at hOq HSI HIl
        obtain ⟨bx, fx, rfl, -⟩ := hq.cells (by rw [HAl.out]; omega)
        have cx := hq.cell0 (k := k + 1) (some_at0 (by rw [HAl.out]; omega))
        have hxk := at0_range (m := m1) (by omega) HAr.out (k + 1)
        have HMON := Lib.hid (fun (u : World) => monomial_c m1 ((t.length : Int) - 1) ((k : Int) + 1) (at0 q (k + 1)) t.length (k + 1) u (by omega) (by omega) (by omega) (by omega))
        have HMr := Lib.hid (monL_range (m := m1) (n := t.length) (k := k + 1) (by omega) hxk)
        generalize at0 q (k + 1) = c0 at cx hxk HMON HMr HSI HSA
        obtain ⟨x0, x1⟩ := id Xq
        obtain ⟨⟨y0, y1⟩, yf⟩ := id RYq
        go_wp2_with (at_builtin; refine apI w3 rfl _ _ rfl w1.heap.size (.slice ol k cl) _ rfl hOq c0 (by go_simp) (by rw [HIl.out]; omega) (by omega) ?_; intro v' w4 hO4 hgr hb4 hlt4)
        clear x0 x1 y0 y1 yf cx hq
        have X4 := Xq.belowB hb4 lX
        have RY4 := RYq.belowB hb4 lY
        have hr4 := (hrq.below (w' := w3.alloc (.cells #[.int .i64 c0] 2)) (by (repeat (first | exact Below.refl _ _ | (refine Below.setCell ?_ (by first | (simp; done) | (simp; omega) | omega) _) | (refine Below.alloc ?_ (by first | (simp; done) | (simp; omega) | omega) _) | (refine below_drewN ?_ _) | (refine Below.drew ?_))))).grown hgr hlh
        have hg4 : w1.grownBy w4 (some (w.heap.size + 1)) := World.grownBy.mk (hb4.os.trans hgq.os) (hb4.tape.trans hgq.tape) (hb4.output.trans hgq.output) (by omega) (fun j hj hne => (hb4.block j hj).trans (hgq.block j hj hne))
        have B4 := below_gr B1 hg4 (by omega) B1s
        have hv4 := hv.below B4 (Nat.le_refl _)
        have h4s : w1.heap.size ≤ w4.heap.size := by omega
        clear hrq hOq hgq hgr hb4 Xq RYq hvr
        rw [← HSI.out] at hO4
        have hq4 := hr4.now
        go_wp2_with fail
        have hd0 : Below w4.heap.size w4 w4.drew := (Below.refl _ _).drew
        have hsd0 := hd0.size
        have hlb_RY4 := RY4.1.lt
        obtain ⟨⟨q0_RY4_0, q0_RY4_1⟩, qf0_RY4⟩ := RY4.below (Below.refl w4.heap.size w4) (Nat.le_refl _)
        obtain ⟨q0_X4_0, q0_X4_1⟩ := X4.below (Below.refl w4.heap.size w4) (Nat.le_refl _)
        refine wp_region_S (S := fun w' => w'.cell? ⟨(w.heap.size + 1) , 0, none⟩ = some (.int .i64 m1) ∧ w'.cell? ⟨(w.heap.size + 1) , 1, none⟩ = some (.slice (some ⟨bx, fx, none⟩) t.length cv) ∧ w'.cell? ⟨w.heap.size, 0, none⟩ = some (.int .i64 m1) ∧ w'.cell? ⟨w.heap.size, 1, none⟩ = some (.slice o t.length c)) 12 (by kernel_rfl) ?_
        have hHeld : (fun w' : World => w'.cell? ⟨(w.heap.size + 1) , 0, none⟩ = some (.int .i64 m1) ∧ w'.cell? ⟨(w.heap.size + 1) , 1, none⟩ = some (.slice (some ⟨bx, fx, none⟩) t.length cv) ∧ w'.cell? ⟨w.heap.size, 0, none⟩ = some (.int .i64 m1) ∧ w'.cell? ⟨w.heap.size, 1, none⟩ = some (.slice o t.length c)) w4.drew := by go_keep
        refine' wpAnyS_takeL (i := 0) (v := _) rfl (by kernel_rfl) (by kernel_rfl) (by kernel_rfl) (by kernel_rfl) (fun _ _ _ h => h) (Or.inl ⟨by rfl, ?yT1⟩) hHeld ?rT1
        case yT1 => (intro w' hSw; (try dsimp only at hSw); go_simp; try with_reducible rfl)
        try simp only [List.getElem_toArray, List.getElem_cons_zero, List.getElem_cons_succ, Act.put, List.setIfInBounds_toArray, List.set_cons_zero, List.set_cons_succ]
        refine' wpAnyS_takeL (i := 1) (v := _) rfl (by kernel_rfl) (by kernel_rfl) (by kernel_rfl) (by kernel_rfl) (fun _ _ _ h => h) (Or.inl ⟨by rfl, ?yT2⟩) hHeld ?rT2
        case yT2 => (intro w' hSw; (try dsimp only at hSw); go_simp; try with_reducible rfl)
        try simp only [List.getElem_toArray, List.getElem_cons_zero, List.getElem_cons_succ, Act.put, List.setIfInBounds_toArray, List.set_cons_zero, List.set_cons_succ]
        refine' wpAnyS_takeL (i := 2) (v := _) rfl (by kernel_rfl) (by kernel_rfl) (by kernel_rfl) (by kernel_rfl) (fun _ _ _ h => h) (Or.inl ⟨by rfl, ?yT3⟩) hHeld ?rT3
        case yT3 => (intro w' hSw; (try dsimp only at hSw); go_simp; try with_reducible rfl)
        try simp only [List.getElem_toArray, List.getElem_cons_zero, List.getElem_cons_succ, Act.put, List.setIfInBounds_toArray, List.set_cons_zero, List.set_cons_succ]
        refine' wpAnyS_takeL (i := 3) (v := _) rfl (by kernel_rfl) (by kernel_rfl) (by kernel_rfl) (by kernel_rfl) (fun _ _ _ h => h) (Or.inl ⟨by rfl, ?yT4⟩) hHeld ?rT4
        case yT4 => (intro w' hSw; (try dsimp only at hSw); go_simp; try with_reducible rfl)
        try simp only [List.getElem_toArray, List.getElem_cons_zero, List.getElem_cons_succ, Act.put, List.setIfInBounds_toArray, List.set_cons_zero, List.set_cons_succ]
        refine' wpAnyS_takeL (i := 4) (v := _) rfl (by kernel_rfl) (by kernel_rfl) (by kernel_rfl) (by kernel_rfl) (fun _ _ _ h => h) (Or.inl ⟨by rfl, ?yT5⟩) hHeld ?rT5
        case yT5 => (intro w' hSw; (try dsimp only at hSw); go_simp; try with_reducible rfl)
        try simp only [List.getElem_toArray, List.getElem_cons_zero, List.getElem_cons_succ, Act.put, List.setIfInBounds_toArray, List.set_cons_zero, List.set_cons_succ]
        refine' wpAnyS_takeL (i := 5) (v := _) rfl (by kernel_rfl) (by kernel_rfl) (by kernel_rfl) (by kernel_rfl) (fun _ _ _ h => h) (Or.inl ⟨by rfl, ?yT6⟩) hHeld ?rT6
        case yT6 => (intro w' hSw; (try dsimp only at hSw); go_simp; try with_reducible rfl)
        try simp only [List.getElem_toArray, List.getElem_cons_zero, List.getElem_cons_succ, Act.put, List.setIfInBounds_toArray, List.set_cons_zero, List.set_cons_succ]
        refine' wpAnyS_takeL (i := 7) (v := _) rfl (by kernel_rfl) (by kernel_rfl) (by kernel_rfl) (by kernel_rfl) (fun _ _ _ h => h) (Or.inl ⟨by rfl, ?yT7⟩) hHeld ?rT7
        case yT7 => (intro w' hSw; (try dsimp only at hSw); go_simp; try with_reducible rfl)
        try simp only [List.getElem_toArray, List.getElem_cons_zero, List.getElem_cons_succ, Act.put, List.setIfInBounds_toArray, List.set_cons_zero, List.set_cons_succ]
        refine' wpAnyS_takeL (i := 8) (v := _) rfl (by kernel_rfl) (by kernel_rfl) (by kernel_rfl) (by kernel_rfl) (fun _ _ _ h => h) (Or.inl ⟨by rfl, ?yT8⟩) hHeld ?rT8
        case yT8 => (intro w' hSw; (try dsimp only at hSw); go_simp; try with_reducible rfl)
        try simp only [List.getElem_toArray, List.getElem_cons_zero, List.getElem_cons_succ, Act.put, List.setIfInBounds_toArray, List.set_cons_zero, List.set_cons_succ]
        refine wpAnyS_oneL (i := 6) rfl (by kernel_rfl) (fun K hK => ?_)
        go_simp
        go_at_call 71
        refine (degreeP_c m1 o t.length c _ hml).mono ?_
        rintro e wd1 ⟨rfl, hbd1⟩
        have hd1 : Below w4.heap.size w4 wd1 := (by (repeat (first | exact Below.refl _ _ | (refine Below.setCell ?_ (by first | (simp; done) | (simp; omega) | omega) _) | (refine Below.alloc ?_ (by first | (simp; done) | (simp; omega) | omega) _) | (refine below_drewN ?_ _) | (refine Below.drew ?_) | (refine Below.trans ?_ (Below.mono hbd1 (by first | (simp; done) | (simp; omega) | omega))))))
        have hsd1 := hd1.size
        obtain ⟨⟨q1_RY4_0, q1_RY4_1⟩, qf1_RY4⟩ := RY4.below hd1 (Nat.le_refl _)
        obtain ⟨q1_X4_0, q1_X4_1⟩ := X4.below hd1 (Nat.le_refl _)
        go_wp2_with fail
        clear hHeld
        have hHeld : (fun w' : World => w'.cell? ⟨(w.heap.size + 1) , 0, none⟩ = some (.int .i64 m1) ∧ w'.cell? ⟨(w.heap.size + 1) , 1, none⟩ = some (.slice (some ⟨bx, fx, none⟩) t.length cv) ∧ w'.cell? ⟨w.heap.size, 0, none⟩ = some (.int .i64 m1) ∧ w'.cell? ⟨w.heap.size, 1, none⟩ = some (.slice o t.length c)) wd1 := by go_keep
        refine hK.out _ _ (fun _ => hHeld) ?_
        clear hK K
        try simp only [List.getElem_toArray, List.getElem_cons_zero, List.getElem_cons_succ, Act.put, List.setIfInBounds_toArray, List.set_cons_zero, List.set_cons_succ]
        refine wpAnyS_oneL (i := 9) rfl (by kernel_rfl) (fun K hK => ?_)
        go_simp
        go_at_call 97
        refine (HMON.out _).mono ?_
        rintro e wd2 ⟨vm, rfl, hod2, hbd2⟩
        obtain ⟨om, cm, rfl⟩ := hod2.shapeN (n := t.length) (monL_len _ _ _)
        have hd2 : Below w4.heap.size w4 wd2 := (by (repeat (first | exact Below.refl _ _ | (refine Below.setCell ?_ (by first | (simp; done) | (simp; omega) | omega) _) | (refine Below.alloc ?_ (by first | (simp; done) | (simp; omega) | omega) _) | (refine below_drewN ?_ _) | (refine Below.drew ?_) | (refine Below.trans ?_ (Below.mono hbd1 (by first | (simp; done) | (simp; omega) | omega))) | (refine Below.trans ?_ (Below.mono hbd2 (by first | (simp; done) | (simp; omega) | omega))))))
        have hsd2 := hd2.size
        obtain ⟨⟨q2_RY4_0, q2_RY4_1⟩, qf2_RY4⟩ := RY4.below hd2 (Nat.le_refl _)
        obtain ⟨q2_X4_0, q2_X4_1⟩ := X4.below hd2 (Nat.le_refl _)
        go_wp2_with fail
        clear hHeld
        have hHeld : (fun w' : World => w'.cell? ⟨(w.heap.size + 1) , 0, none⟩ = some (.int .i64 m1) ∧ w'.cell? ⟨(w.heap.size + 1) , 1, none⟩ = some (.slice (some ⟨bx, fx, none⟩) t.length cv) ∧ w'.cell? ⟨w.heap.size, 0, none⟩ = some (.int .i64 m1) ∧ w'.cell? ⟨w.heap.size, 1, none⟩ = some (.slice o t.length c)) wd2 := by go_keep
        refine hK.out _ _ (fun _ => hHeld) ?_
        clear hK K
        try simp only [List.getElem_toArray, List.getElem_cons_zero, List.getElem_cons_succ, Act.put, List.setIfInBounds_toArray, List.set_cons_zero, List.set_cons_succ]
        refine wpAnyS_oneL (i := 10) rfl (by kernel_rfl) (fun K hK => ?_)
        go_simp
        go_at_call 99
        refine (opposite_c m1 m1 t.length _ _ t (monL t.length (k + 1) c0) _ ((hv4).below (by (repeat (first | exact Below.refl _ _ | (refine Below.setCell ?_ (by first | (simp; done) | (simp; omega) | omega) _) | (refine Below.alloc ?_ (by first | (simp; done) | (simp; omega) | omega) _) | (refine below_drewN ?_ _) | (refine Below.drew ?_) | (refine Below.trans ?_ (Below.mono hbd1 (by first | (simp; done) | (simp; omega) | omega))) | (refine Below.trans ?_ (Below.mono hbd2 (by first | (simp; done) | (simp; omega) | omega)))))) (Nat.le_refl _)) ((hod2.below (by (repeat (first | exact Below.refl _ _ | (refine Below.setCell ?_ (by first | (simp; done) | (simp; omega) | omega) _) | (refine Below.alloc ?_ (by first | (simp; done) | (simp; omega) | omega) _) | (refine below_drewN ?_ _) | (refine Below.drew ?_)))))).rd (monL_len _ _ _) (by omega) (by omega) (by omega) (by omega) HT.out HMr.out).mono ?_
        rintro e wd3 ⟨vo, rfl, hod3, hbd3⟩
        obtain ⟨oo', co, rfl⟩ := hod3.shapeN (n := t.length) (horn_len _ _ _ _)
        have hd3 : Below w4.heap.size w4 wd3 := (by (repeat (first | exact Below.refl _ _ | (refine Below.setCell ?_ (by first | (simp; done) | (simp; omega) | omega) _) | (refine Below.alloc ?_ (by first | (simp; done) | (simp; omega) | omega) _) | (refine below_drewN ?_ _) | (refine Below.drew ?_) | (refine Below.trans ?_ (Below.mono hbd1 (by first | (simp; done) | (simp; omega) | omega))) | (refine Below.trans ?_ (Below.mono hbd2 (by first | (simp; done) | (simp; omega) | omega))) | (refine Below.trans ?_ (Below.mono hbd3 (by first | (simp; done) | (simp; omega) | omega))))))
        have hsd3 := hd3.size
        obtain ⟨⟨q3_RY4_0, q3_RY4_1⟩, qf3_RY4⟩ := RY4.below hd3 (Nat.le_refl _)
        obtain ⟨q3_X4_0, q3_X4_1⟩ := X4.below hd3 (Nat.le_refl _)
        go_wp2_with fail
        clear hHeld
        have hHeld : (fun w' : World => w'.cell? ⟨(w.heap.size + 1) , 0, none⟩ = some (.int .i64 m1) ∧ w'.cell? ⟨(w.heap.size + 1) , 1, none⟩ = some (.slice (some ⟨bx, fx, none⟩) t.length cv) ∧ w'.cell? ⟨w.heap.size, 0, none⟩ = some (.int .i64 m1) ∧ w'.cell? ⟨w.heap.size, 1, none⟩ = some (.slice o t.length c)) wd3 := by go_keep
        refine hK.out _ _ (fun _ => hHeld) ?_
        clear hK K
        try simp only [List.getElem_toArray, List.getElem_cons_zero, List.getElem_cons_succ, Act.put, List.setIfInBounds_toArray, List.set_cons_zero, List.set_cons_succ]
        refine wpAnyS_oneL (i := 11) rfl (by kernel_rfl) (fun K hK => ?_)
        go_simp
        go_at_call 96
        refine (curvesP_c m1 m1 t.length _ _ _ t q (horn m1 t.length (monL t.length (k + 1) c0) (invL m1 t.length t)) _ ((hv4).below (by (repeat (first | exact Below.refl _ _ | (refine Below.setCell ?_ (by first | (simp; done) | (simp; omega) | omega) _) | (refine Below.alloc ?_ (by first | (simp; done) | (simp; omega) | omega) _) | (refine below_drewN ?_ _) | (refine Below.drew ?_) | (refine Below.trans ?_ (Below.mono hbd1 (by first | (simp; done) | (simp; omega) | omega))) | (refine Below.trans ?_ (Below.mono hbd2 (by first | (simp; done) | (simp; omega) | omega))) | (refine Below.trans ?_ (Below.mono hbd3 (by first | (simp; done) | (simp; omega) | omega)))))) (Nat.le_refl _)) ((hq4).below (by (repeat (first | exact Below.refl _ _ | (refine Below.setCell ?_ (by first | (simp; done) | (simp; omega) | omega) _) | (refine Below.alloc ?_ (by first | (simp; done) | (simp; omega) | omega) _) | (refine below_drewN ?_ _) | (refine Below.drew ?_) | (refine Below.trans ?_ (Below.mono hbd1 (by first | (simp; done) | (simp; omega) | omega))) | (refine Below.trans ?_ (Below.mono hbd2 (by first | (simp; done) | (simp; omega) | omega))) | (refine Below.trans ?_ (Below.mono hbd3 (by first | (simp; done) | (simp; omega) | omega)))))) (Nat.le_refl _)) ((hod3.below (by (repeat (first | exact Below.refl _ _ | (refine Below.setCell ?_ (by first | (simp; done) | (simp; omega) | omega) _) | (refine Below.alloc ?_ (by first | (simp; done) | (simp; omega) | omega) _) | (refine below_drewN ?_ _) | (refine Below.drew ?_)))))).rd HAl.out (horn_len _ _ _ _) (by omega) (by omega) (by omega) (by omega) HT.out HAr.out (horn_range (by omega))).mono ?_
        rintro e wd4 ⟨vp, rfl, hod4, hbd4⟩
        obtain ⟨op, cp, rfl⟩ := hod4.shapeN (n := t.length) (putTo_len _ _ _ _ _ _ _)
        have hd4 : Below w4.heap.size w4 wd4 := (by (repeat (first | exact Below.refl _ _ | (refine Below.setCell ?_ (by first | (simp; done) | (simp; omega) | omega) _) | (refine Below.alloc ?_ (by first | (simp; done) | (simp; omega) | omega) _) | (refine below_drewN ?_ _) | (refine Below.drew ?_) | (refine Below.trans ?_ (Below.mono hbd1 (by first | (simp; done) | (simp; omega) | omega))) | (refine Below.trans ?_ (Below.mono hbd2 (by first | (simp; done) | (simp; omega) | omega))) | (refine Below.trans ?_ (Below.mono hbd3 (by first | (simp; done) | (simp; omega) | omega))) | (refine Below.trans ?_ (Below.mono hbd4 (by first | (simp; done) | (simp; omega) | omega))))))
        have hsd4 := hd4.size
        obtain ⟨⟨q4_RY4_0, q4_RY4_1⟩, qf4_RY4⟩ := RY4.below hd4 (Nat.le_refl _)
        obtain ⟨q4_X4_0, q4_X4_1⟩ := X4.below hd4 (Nat.le_refl _)
        go_wp2_with fail
        clear hHeld
        have hHeld : (fun w' : World => w'.cell? ⟨(w.heap.size + 1) , 0, none⟩ = some (.int .i64 m1) ∧ w'.cell? ⟨(w.heap.size + 1) , 1, none⟩ = some (.slice (some ⟨bx, fx, none⟩) t.length cv) ∧ w'.cell? ⟨w.heap.size, 0, none⟩ = some (.int .i64 m1) ∧ w'.cell? ⟨w.heap.size, 1, none⟩ = some (.slice o t.length c)) wd4 := by go_keep
        refine hK.out _ _ (fun _ => hHeld) ?_
        clear hK K
        try simp only [List.getElem_toArray, List.getElem_cons_zero, List.getElem_cons_succ, Act.put, List.setIfInBounds_toArray, List.set_cons_zero, List.set_cons_succ]
        refine wpAnyS_oneL (i := 12) rfl (by kernel_rfl) (fun K hK => ?_)
        go_simp
        (try go_wp2_with fail)
        refine hK.out _ _ (fun h => absurd h (by decide)) ?_
        clear hK K
        try simp only [List.getElem_toArray, List.getElem_cons_zero, List.getElem_cons_succ, Act.put, List.setIfInBounds_toArray, List.set_cons_zero, List.set_cons_succ]
        refine wpAnyS_done (by kernel_rfl) ?_ _
        have hOn := RY4.below hd4 (Nat.le_refl _)
        go_wp2_with fail
        have hgZ : w4.grownBy ((wd4.setCell ⟨(w.heap.size + 1) , 0, none⟩ (.int .i64 m1)).setCell ⟨(w.heap.size + 1) , 1, none⟩ (.slice op t.length cp)) (some (w.heap.size + 1) ) := (gr_put (gr_put (show w4.grownBy wd4 (some (w.heap.size + 1) ) from World.grownBy.mk hd4.os hd4.tape hd4.output hd4.size (fun k hk _ => hd4.block k hk)) _ _) _ _)
        have hOZ : RB2 ((wd4.setCell ⟨(w.heap.size + 1) , 0, none⟩ (.int .i64 m1)).setCell ⟨(w.heap.size + 1) , 1, none⟩ (.slice op t.length cp)) (w.heap.size + 1)  (.int .i64 m1) (.slice op t.length cp) := RB2.put hOn _ _
        have hRZ : OwI ((wd4.setCell ⟨(w.heap.size + 1) , 0, none⟩ (.int .i64 m1)).setCell ⟨(w.heap.size + 1) , 1, none⟩ (.slice op t.length cp)) w4.heap.size (.slice op t.length cp) (putL m1 t.length t q (horn m1 t.length (monL t.length (k + 1) c0) (invL m1 t.length t))) := ((hod4.low (by first | (simp; done) | (simp; omega) | omega) _).low (by first | (simp; done) | (simp; omega) | omega) _).mono (by first | (simp; done) | (simp; omega) | omega)
        rw [HSA.out] at hRZ
        have hgs4 := hgZ.size
        have hO9 := hO4.kept hgZ (.inr (fun e => by have := (hO4.lt _ e).1; omega))
        have hR9 := OwI.rds hRZ hgs4
        have hl4 := hO4.lt
        go_wp2
        exact ⟨⟨k + 1, op, cp, _, _, by omega, by go_num, hO9, hOZ, hR9, .inl (by omega), fun g hg => .inl (hl4 g hg).2, hg4.trans hgZ⟩, by simp [intOf]; omega⟩
      · obtain rfl : k = t.length - 1 := by omega
        have i1 : ¬ ((t.length - 1 : Nat) : Int) + 1 ≤ (t.length : Int) - 1 := by omega
        have Bq := below_gr B1 hgq (by omega) B1s
        go_wp2
        go_ret2
        exact ⟨_, rfl, hOq.mono B1s, Bq, hlen⟩
  · have hR : crdR m t m1 xs = ⟨[], curC m t [(m1, xs)]⟩ := by simp [crdR, hc]
    rw [hR]
    clear hR
    obtain ⟨cc, hcc0⟩ : ∃ cc, curC m t [(m1, xs)] = cc := ⟨_, rfl⟩
    rw [hcc0] at hc ⊢
    have HC := Lib.hid hcc0
    clear hcc0
    have hcc : (cc != 0) = true := by simpa using hc
    clear hc
    go_enter Try.func36, Try.ntmps36
    go_wp2_with fail
    (have X0 := ((RB2.mk1 w  (.int .i64 m) (.slice o t.length c) 32).1).below (w' := ((w.alloc (.cells #[.int .i64 m, .slice o t.length c] 32)).alloc (.cells #[.int .i64 m1, .slice o1 xs.length c1] 34))) (by (repeat (first | exact Below.refl _ _ | (refine Below.setCell ?_ (by first | (simp; done) | (simp; omega) | omega) _) | (refine Below.alloc ?_ (by first | (simp; done) | (simp; omega) | omega) _) | (refine below_drewN ?_ _) | (refine Below.drew ?_)))) (Nat.le_refl _); have Y0 := ((RB2.mk2 w (.cells #[.int .i64 m, .slice o t.length c] 32) (.int .i64 m1) (.slice o1 xs.length c1) 34).1).below (w' := ((w.alloc (.cells #[.int .i64 m, .slice o t.length c] 32)).alloc (.cells #[.int .i64 m1, .slice o1 xs.length c1] 34))) (by (repeat (first | exact Below.refl _ _ | (refine Below.setCell ?_ (by first | (simp; done) | (simp; omega) | omega) _) | (refine Below.alloc ?_ (by first | (simp; done) | (simp; omega) | omega) _) | (refine below_drewN ?_ _) | (refine Below.drew ?_)))) (Nat.le_refl _); have B0 : Below w.heap.size w ((w.alloc (.cells #[.int .i64 m, .slice o t.length c] 32)).alloc (.cells #[.int .i64 m1, .slice o1 xs.length c1] 34)) := (by (repeat (first | exact Below.refl _ _ | (refine Below.setCell ?_ (by first | (simp; done) | (simp; omega) | omega) _) | (refine Below.alloc ?_ (by first | (simp; done) | (simp; omega) | omega) _) | (refine below_drewN ?_ _) | (refine Below.drew ?_)))); have hv0 := hv.below (w' := ((w.alloc (.cells #[.int .i64 m, .slice o t.length c] 32)).alloc (.cells #[.int .i64 m1, .slice o1 xs.length c1] 34))) (by (repeat (first | exact Below.refl _ _ | (refine Below.setCell ?_ (by first | (simp; done) | (simp; omega) | omega) _) | (refine Below.alloc ?_ (by first | (simp; done) | (simp; omega) | omega) _) | (refine below_drewN ?_ _) | (refine Below.drew ?_)))) (Nat.le_refl _); have hu0 := hu.below (w' := ((w.alloc (.cells #[.int .i64 m, .slice o t.length c] 32)).alloc (.cells #[.int .i64 m1, .slice o1 xs.length c1] 34))) (by (repeat (first | exact Below.refl _ _ | (refine Below.setCell ?_ (by first | (simp; done) | (simp; omega) | omega) _) | (refine Below.alloc ?_ (by first | (simp; done) | (simp; omega) | omega) _) | (refine below_drewN ?_ _) | (refine Below.drew ?_)))) (Nat.le_refl _); have HS0 := Lib.hid (show ((w.alloc (.cells #[.int .i64 m, .slice o t.length c] 32)).alloc (.cells #[.int .i64 m1, .slice o1 xs.length c1] 34)).heap.size = w.heap.size + 1 + 1 by simp); generalize (w.alloc (.cells #[.int .i64 m, .slice o t.length c] 32)).alloc (.cells #[.int .i64 m1, .slice o1 xs.length c1] 34) = w0 at X0 Y0 B0 hv0 hu0 HS0 ⊢)
    obtain ⟨x0, x1⟩ := id X0
    obtain ⟨y0, y1⟩ := id Y0
    go_wp2_with fail
    have hzb : Below w0.heap.size w0 (w0.alloc (.cells #[.int .i64 m1, .slice o1 xs.length c1] 34)) := (by (repeat (first | exact Below.refl _ _ | (refine Below.setCell ?_ (by first | (simp; done) | (simp; omega) | omega) _) | (refine Below.alloc ?_ (by first | (simp; done) | (simp; omega) | omega) _) | (refine below_drewN ?_ _) | (refine Below.drew ?_))))
    refine (curved_c m _ _ t [(m1, xs)] _ (hv0.below hzb (Nat.le_refl _)) (RdM.lit1c w0 HS0.out m1 _ xs hu0)).mono ?_
    clear hzb
    rw [HC.out]
    rintro e w1 ⟨rfl, hb⟩
    have hb := (show Below w0.heap.size w0 w1 from (by (repeat (first | exact Below.refl _ _ | (refine Below.setCell ?_ (by first | (simp; done) | (simp; omega) | omega) _) | (refine Below.alloc ?_ (by first | (simp; done) | (simp; omega) | omega) _) | (refine below_drewN ?_ _) | (refine Below.drew ?_) | (refine Below.trans ?_ (Below.mono hb (by first | (simp; done) | (simp; omega) | omega)))))))
    clear x0 x1 y0 y1 HS0
    (have X1 := X0.below hb (Nat.le_refl _); have B1 := B0.trans (hb.mono B0.size))
    clear hb
    go_wp2
    go_ret2
    exact ⟨_, rfl, OwI.nil _ _, B1, by simp⟩

set_option maxHeartbeats 2000000 in
set_option maxRecDepth 100000 in
theorem sCoordinatesUnder_c (m : Int) (v : Value) (t : List (List Int)) (m1 : Int) (u : Value) (xs : List Int) (w : World) (hv : RdT w v t) (hu : RdI w u xs) :
    Calls Try.prog 35 #[.agg #[.int .i64 m, v], .agg #[.int .i64 m1, u]] w fun e w' => LEnd w w' (crdR m t m1 xs) e := by
  obtain ⟨o, c, rfl, hmt, -⟩ := id hv
  obtain ⟨o1, c1, rfl, hmu, -⟩ := id hu
  have hml := hmt.1
  by_cases hc : curC m t [(m1, xs)] = 0
  · obtain ⟨e1, l1, z1, a1, hx, ht, hm, hm', hn, hn'⟩ := crd_good hc
    subst e1
    have hR : crdR m1 t m1 xs = ⟨cuL m1 t.length t xs (t.length - 1), 0⟩ := by simp [crdR, hc]
    rw [hR]
    have HC := Lib.hid hc
    have HT := Lib.hid ht
    have HLX := Lib.hid l1
    have HX := Lib.hid hx
    have hcc : ((0 : Int) != 0) = false := by simp
    have hlen : (cuL m1 t.length t xs (t.length - 1)).length ≤ 1048576 := by rw [cuL_len]; omega
    have hu2 : RdI w (.slice o1 t.length c1) xs := by rw [l1] at hu; exact hu
    clear hc hR a1 z1 hx ht hmt hmu hu
    rw [l1]
    clear l1
    go_enter Try.func35, Try.ntmps35
    go_wp2_with fail
    (have X0 := ((RB2.mk1 w  (.int .i64 m1) (.slice o t.length c) 32).1).below (w' := ((w.alloc (.cells #[.int .i64 m1, .slice o t.length c] 32)).alloc (.cells #[.int .i64 m1, .slice o1 t.length c1] 34))) (by (repeat (first | exact Below.refl _ _ | (refine Below.setCell ?_ (by first | (simp; done) | (simp; omega) | omega) _) | (refine Below.alloc ?_ (by first | (simp; done) | (simp; omega) | omega) _) | (refine below_drewN ?_ _) | (refine Below.drew ?_)))) (Nat.le_refl _); have Y0 := ((RB2.mk2 w (.cells #[.int .i64 m1, .slice o t.length c] 32) (.int .i64 m1) (.slice o1 t.length c1) 34).1).below (w' := ((w.alloc (.cells #[.int .i64 m1, .slice o t.length c] 32)).alloc (.cells #[.int .i64 m1, .slice o1 t.length c1] 34))) (by (repeat (first | exact Below.refl _ _ | (refine Below.setCell ?_ (by first | (simp; done) | (simp; omega) | omega) _) | (refine Below.alloc ?_ (by first | (simp; done) | (simp; omega) | omega) _) | (refine below_drewN ?_ _) | (refine Below.drew ?_)))) (Nat.le_refl _); have B0 : Below w.heap.size w ((w.alloc (.cells #[.int .i64 m1, .slice o t.length c] 32)).alloc (.cells #[.int .i64 m1, .slice o1 t.length c1] 34)) := (by (repeat (first | exact Below.refl _ _ | (refine Below.setCell ?_ (by first | (simp; done) | (simp; omega) | omega) _) | (refine Below.alloc ?_ (by first | (simp; done) | (simp; omega) | omega) _) | (refine below_drewN ?_ _) | (refine Below.drew ?_)))); have hv0 := hv.below (w' := ((w.alloc (.cells #[.int .i64 m1, .slice o t.length c] 32)).alloc (.cells #[.int .i64 m1, .slice o1 t.length c1] 34))) (by (repeat (first | exact Below.refl _ _ | (refine Below.setCell ?_ (by first | (simp; done) | (simp; omega) | omega) _) | (refine Below.alloc ?_ (by first | (simp; done) | (simp; omega) | omega) _) | (refine below_drewN ?_ _) | (refine Below.drew ?_)))) (Nat.le_refl _); have hu20 := hu2.below (w' := ((w.alloc (.cells #[.int .i64 m1, .slice o t.length c] 32)).alloc (.cells #[.int .i64 m1, .slice o1 t.length c1] 34))) (by (repeat (first | exact Below.refl _ _ | (refine Below.setCell ?_ (by first | (simp; done) | (simp; omega) | omega) _) | (refine Below.alloc ?_ (by first | (simp; done) | (simp; omega) | omega) _) | (refine below_drewN ?_ _) | (refine Below.drew ?_)))) (Nat.le_refl _); have HS0 := Lib.hid (show ((w.alloc (.cells #[.int .i64 m1, .slice o t.length c] 32)).alloc (.cells #[.int .i64 m1, .slice o1 t.length c1] 34)).heap.size = w.heap.size + 1 + 1 by simp); generalize (w.alloc (.cells #[.int .i64 m1, .slice o t.length c] 32)).alloc (.cells #[.int .i64 m1, .slice o1 t.length c1] 34) = w0 at X0 Y0 B0 hv0 hu20 HS0 ⊢)
    obtain ⟨x0, x1⟩ := id X0
    obtain ⟨y0, y1⟩ := id Y0
    go_wp2_with fail
    have hzb : Below w0.heap.size w0 (w0.alloc (.cells #[.int .i64 m1, .slice o1 t.length c1] 34)) := (by (repeat (first | exact Below.refl _ _ | (refine Below.setCell ?_ (by first | (simp; done) | (simp; omega) | omega) _) | (refine Below.alloc ?_ (by first | (simp; done) | (simp; omega) | omega) _) | (refine below_drewN ?_ _) | (refine Below.drew ?_))))
    have HL2 := Lib.hid (RdM.lit1c w0 HS0.out m1 _ xs hu20)
    refine (l04Code_c m1 _ _ t [(m1, xs)] _ (hv0.below hzb (Nat.le_refl _)) HL2.out).mono ?_
    clear hzb HL2
    rw [HC.out]
    rintro e w1 ⟨rfl, hb⟩
    have hb := (show Below w0.heap.size w0 w1 from (by (repeat (first | exact Below.refl _ _ | (refine Below.setCell ?_ (by first | (simp; done) | (simp; omega) | omega) _) | (refine Below.alloc ?_ (by first | (simp; done) | (simp; omega) | omega) _) | (refine below_drewN ?_ _) | (refine Below.drew ?_) | (refine Below.trans ?_ (Below.mono hb (by first | (simp; done) | (simp; omega) | omega)))))))
    clear x0 x1 y0 y1 HS0
    (have X1 := X0.below hb (Nat.le_refl _); have Y1 := Y0.below hb (Nat.le_refl _); have hv1 := hv0.below hb (Nat.le_refl _); have hu21 := hu20.below hb (Nat.le_refl _); have B1 := B0.trans (hb.mono B0.size))
    clear hb
    have B1s := B1.size
    have lX := X1.lt
    have lY := Y1.lt
    go_wp2_with fail
    have O1 := OwI.lit w1 [] (by decide)
    have hb2 : Below w1.heap.size w1 (w1.alloc (.cells #[] 2)) := (by (repeat (first | exact Below.refl _ _ | (refine Below.setCell ?_ (by first | (simp; done) | (simp; omega) | omega) _) | (refine Below.alloc ?_ (by first | (simp; done) | (simp; omega) | omega) _) | (refine below_drewN ?_ _) | (refine Below.drew ?_))))
    simp at O1
    generalize w1.alloc (.cells #[] 2) = w2 at O1 hb2 ⊢
    go_loopw [7, 8] (fun l i wr => ∃ (k : Nat), k + 1 ≤ t.length ∧ i = .int .i64 ((k : Int) + 1) ∧ OwI wr w1.heap.size l (cuL m1 t.length t xs k) ∧ Below w1.heap.size w1 wr) (fun _ i _ => t.length - (intOf i).toNat)
    case atStart => exact ⟨0, by omega, by go_num, O1, hb2⟩
    case round =>
      clear O1 hb2
      obtain ⟨k, hk, rfl, hO, hbr⟩ := hrel
      have hbrs := hbr.size
      have Xr := X1.below hbr (Nat.le_refl _)
      have Yr := Y1.below hbr (Nat.le_refl _)
      have hvr := hv1.below hbr (Nat.le_refl _)
      have hur := hu21.below hbr (Nat.le_refl _)
      obtain ⟨ol, cl, rfl⟩ := hO.shapeN (n := k) (cuL_len _ _ _ _ _)
      by_cases hlt : k + 1 < t.length
      · have i1 : (k : Int) + 1 < (t.length : Int) := by omega
        have i0 : (0 : Int) ≤ (k : Int) + 1 := by omega
        have i3 : ((k : Int) + 1).toNat = k + 1 := by omega
        have HLr := Lib.hid (cuL_range (m := m1) (by omega) t.length t xs k)
        have HSn := Lib.hid (show cuL m1 t.length t xs (k + 1) = cuL m1 t.length t xs k ++ [(at0 xs (k + 1) - at0 (crvL m1 t.length t (cuL m1 t.length t xs k)) (k + 1)) % m1] from rfl)
        have HLl := Lib.hid (cuL_len m1 t.length t xs k)
        generalize cuL m1 t.length t xs k = l at hO HLr HSn HLl
        obtain ⟨x0, x1⟩ := id Xr
        obtain ⟨y0, y1⟩ := id Yr
        go_wp2_with fail
        refine (l12Curve_c m1 t.length _ _ t l _ hvr hO.rd (by rw [HLl.out]; omega) (by omega) (by omega) (by omega) (by omega) HT.out HLr.out).mono ?_
        rintro e w3 ⟨vn, rfl, hon, hb3⟩
        clear x0 x1 y0 y1
        have HNl := Lib.hid (show (crvL m1 t.length t l).length = t.length from crvTo_len _ _ _ _ _)
        have HNr := Lib.hid (show ∀ x ∈ crvL m1 t.length t l, 0 ≤ x ∧ x < m1 from crvTo_range (by omega) _ _ _ _)
        generalize crvL m1 t.length t l = q at hon HSn HNl HNr
        obtain ⟨oq, cq, rfl⟩ := hon.shapeN (n := t.length) HNl.out
        have hb3s := hb3.size
        have Xq := Xr.below hb3 (Nat.le_refl _)
        have Yq := Yr.below hb3 (Nat.le_refl _)
        have huq := hur.below hb3 (Nat.le_refl _)
        have hOq := hO.below hb3
        have hbq := hbr.trans (hb3.mono hbrs)
        clear Xr Yr hvr hur hO hbr hb3
        obtain ⟨bx, fx, rfl, -⟩ := huq.cells (by rw [HLX.out]; omega)
        obtain ⟨bq, fq, rfl, -⟩ := hon.rd.cells (by rw [HNl.out]; omega)
        have cx := huq.cell0 (k := k + 1) (some_at0 (by rw [HLX.out]; omega))
        have cy := hon.rd.cell0 (k := k + 1) (some_at0 (by rw [HNl.out]; omega))
        have hxr := at0_range (m := m1) (by omega) HX.out (k + 1)
        have hyr := at0_range (m := m1) (by omega) HNr.out (k + 1)
        generalize at0 xs (k + 1) = x at cx hxr HSn
        generalize at0 q (k + 1) = y at cy hyr HSn
        obtain ⟨x0, x1⟩ := id Xq
        obtain ⟨y0, y1⟩ := id Yq
        have e1 : IntKind.i64.wrap (x - y) = x - y := IntWalk.i64_in _ (by omega)
        go_wp2_with fail
        have hd0 : Below w3.heap.size w3 w3.drew := (Below.refl _ _).drew
        have hsd0 := hd0.size
        refine wp_region_K (S := fun w' => w'.cell? ⟨w.heap.size, 0, none⟩ = some (.int .i64 m1) ∧ w'.cell? ⟨w.heap.size + 1, 1, none⟩ = some (.slice (some ⟨bx, fx, none⟩) t.length c1) ∧ w'.cell? ⟨bx, fx + (k + 1), none⟩ = some (.int .i64 x) ∧ w'.cell? ⟨bq, fq + (k + 1), none⟩ = some (.int .i64 y)) [0, 14, 15, 16] (by kernel_rfl) ?_
        have hHeld : (fun w' : World => w'.cell? ⟨w.heap.size, 0, none⟩ = some (.int .i64 m1) ∧ w'.cell? ⟨w.heap.size + 1, 1, none⟩ = some (.slice (some ⟨bx, fx, none⟩) t.length c1) ∧ w'.cell? ⟨bx, fx + (k + 1), none⟩ = some (.int .i64 x) ∧ w'.cell? ⟨bq, fq + (k + 1), none⟩ = some (.int .i64 y)) w3.drew := by go_keep
        refine' wpAnyK_pureL (i := 0) (v := _) rfl (by kernel_rfl) (by kernel_rfl) (by kernel_rfl) (by kernel_rfl) (fun _ _ _ h => h) (Or.inl ⟨by rfl, ?yT9⟩) ?rT9
        case yT9 => (intro w' _; go_simp; try with_reducible rfl)
        try simp only [List.getElem_toArray, List.getElem_cons_zero, List.getElem_cons_succ, Act.put, List.setIfInBounds_toArray, List.set_cons_zero, List.set_cons_succ]
        refine' wpAnyK_takeL (i := 1) (v := _) rfl (by kernel_rfl) (by kernel_rfl) (by kernel_rfl) (by kernel_rfl) (fun _ _ _ h => h) (Or.inl ⟨by rfl, ?yT10⟩) hHeld ?rT10
        case yT10 => (intro w' hSw; (try dsimp only at hSw); go_simp; try with_reducible rfl)
        try simp only [List.getElem_toArray, List.getElem_cons_zero, List.getElem_cons_succ, Act.put, List.setIfInBounds_toArray, List.set_cons_zero, List.set_cons_succ]
        refine' wpAnyK_takeL (i := 2) (v := _) rfl (by kernel_rfl) (by kernel_rfl) (by kernel_rfl) (by kernel_rfl) (fun _ _ _ h => h) (Or.inl ⟨by rfl, ?yT11⟩) hHeld ?rT11
        case yT11 => (intro w' hSw; (try dsimp only at hSw); go_simp; try with_reducible rfl)
        try simp only [List.getElem_toArray, List.getElem_cons_zero, List.getElem_cons_succ, Act.put, List.setIfInBounds_toArray, List.set_cons_zero, List.set_cons_succ]
        refine' wpAnyK_takeL (i := 3) (v := _) rfl (by kernel_rfl) (by kernel_rfl) (by kernel_rfl) (by kernel_rfl) (fun _ _ _ h => h) (Or.inl ⟨by rfl, ?yT12⟩) hHeld ?rT12
        case yT12 => (intro w' hSw; (try dsimp only at hSw); go_simp; try with_reducible rfl)
        try simp only [List.getElem_toArray, List.getElem_cons_zero, List.getElem_cons_succ, Act.put, List.setIfInBounds_toArray, List.set_cons_zero, List.set_cons_succ]
        refine' wpAnyK_takeL (i := 4) (v := _) rfl (by kernel_rfl) (by kernel_rfl) (by kernel_rfl) (by kernel_rfl) (fun _ _ _ h => h) (Or.inl ⟨by rfl, ?yT13⟩) hHeld ?rT13
        case yT13 => (intro w' hSw; (try dsimp only at hSw); go_simp; try with_reducible rfl)
        try simp only [List.getElem_toArray, List.getElem_cons_zero, List.getElem_cons_succ, Act.put, List.setIfInBounds_toArray, List.set_cons_zero, List.set_cons_succ]
        refine' wpAnyK_takeL (i := 5) (v := _) rfl (by kernel_rfl) (by kernel_rfl) (by kernel_rfl) (by kernel_rfl) (fun _ _ _ h => h) (Or.inl ⟨by rfl, ?yT14⟩) hHeld ?rT14
        case yT14 => (intro w' hSw; (try dsimp only at hSw); go_simp; try with_reducible rfl)
        try simp only [List.getElem_toArray, List.getElem_cons_zero, List.getElem_cons_succ, Act.put, List.setIfInBounds_toArray, List.set_cons_zero, List.set_cons_succ]
        refine' wpAnyK_takeL (i := 6) (v := _) rfl (by kernel_rfl) (by kernel_rfl) (by kernel_rfl) (by kernel_rfl) (fun _ _ _ h => h) (Or.inl ⟨by rfl, ?yT15⟩) hHeld ?rT15
        case yT15 => (intro w' hSw; (try dsimp only at hSw); go_simp; try with_reducible rfl)
        try simp only [List.getElem_toArray, List.getElem_cons_zero, List.getElem_cons_succ, Act.put, List.setIfInBounds_toArray, List.set_cons_zero, List.set_cons_succ]
        refine' wpAnyK_takeL (i := 7) (v := _) rfl (by kernel_rfl) (by kernel_rfl) (by kernel_rfl) (by kernel_rfl) (fun _ _ _ h => h) (Or.inl ⟨by rfl, ?yT16⟩) hHeld ?rT16
        case yT16 => (intro w' hSw; (try dsimp only at hSw); go_simp; try with_reducible rfl)
        try simp only [List.getElem_toArray, List.getElem_cons_zero, List.getElem_cons_succ, Act.put, List.setIfInBounds_toArray, List.set_cons_zero, List.set_cons_succ]
        refine' wpAnyK_takeL (i := 8) (v := _) rfl (by kernel_rfl) (by kernel_rfl) (by kernel_rfl) (by kernel_rfl) (fun _ _ _ h => h) (Or.inl ⟨by rfl, ?yT17⟩) hHeld ?rT17
        case yT17 => (intro w' hSw; (try dsimp only at hSw); go_simp; try with_reducible rfl)
        try simp only [List.getElem_toArray, List.getElem_cons_zero, List.getElem_cons_succ, Act.put, List.setIfInBounds_toArray, List.set_cons_zero, List.set_cons_succ]
        refine' wpAnyK_takeL (i := 9) (v := _) rfl (by kernel_rfl) (by kernel_rfl) (by kernel_rfl) (by kernel_rfl) (fun _ _ _ h => h) (Or.inl ⟨by rfl, ?yT18⟩) hHeld ?rT18
        case yT18 => (intro w' hSw; (try dsimp only at hSw); go_simp; try with_reducible rfl)
        try simp only [List.getElem_toArray, List.getElem_cons_zero, List.getElem_cons_succ, Act.put, List.setIfInBounds_toArray, List.set_cons_zero, List.set_cons_succ]
        refine' wpAnyK_takeL (i := 10) (v := _) rfl (by kernel_rfl) (by kernel_rfl) (by kernel_rfl) (by kernel_rfl) (fun _ _ _ h => h) (Or.inl ⟨by rfl, ?yT19⟩) hHeld ?rT19
        case yT19 => (intro w' hSw; (try dsimp only at hSw); go_simp; try with_reducible rfl)
        try simp only [List.getElem_toArray, List.getElem_cons_zero, List.getElem_cons_succ, Act.put, List.setIfInBounds_toArray, List.set_cons_zero, List.set_cons_succ]
        refine' wpAnyK_takeL (i := 11) (v := _) rfl (by kernel_rfl) (by kernel_rfl) (by kernel_rfl) (by kernel_rfl) (fun _ _ _ h => h) (Or.inl ⟨by rfl, ?yT20⟩) hHeld ?rT20
        case yT20 => (intro w' hSw; (try dsimp only at hSw); go_simp; try with_reducible rfl)
        try simp only [List.getElem_toArray, List.getElem_cons_zero, List.getElem_cons_succ, Act.put, List.setIfInBounds_toArray, List.set_cons_zero, List.set_cons_succ]
        refine' wpAnyK_takeL (i := 12) (v := _) rfl (by kernel_rfl) (by kernel_rfl) (by kernel_rfl) (by kernel_rfl) (fun _ _ _ h => h) (Or.inl ⟨by rfl, ?yT21⟩) hHeld ?rT21
        case yT21 => (intro w' hSw; (try dsimp only at hSw); go_simp; try with_reducible rfl)
        try simp only [List.getElem_toArray, List.getElem_cons_zero, List.getElem_cons_succ, Act.put, List.setIfInBounds_toArray, List.set_cons_zero, List.set_cons_succ]
        refine wpAnyK_oneL (i := 13) rfl (by kernel_rfl) (fun K hK => ?_)
        go_simp
        go_at_call 98
        refine (l01Mod_c (x - y) m1 _ (by omega) (by omega) (by omega) (by omega)).mono ?_
        rintro e w' ⟨rfl, rfl⟩
        go_wp2_with fail
        refine hK.out _ _ (fun _ => hHeld) ?_
        clear hK K
        try simp only [List.getElem_toArray, List.getElem_cons_zero, List.getElem_cons_succ, Act.put, List.setIfInBounds_toArray, List.set_cons_zero, List.set_cons_succ]
        refine wpAnyK_oneL (i := 14) rfl (by kernel_rfl) (fun K hK => ?_)
        go_simp
        (try go_wp2_with fail)
        refine hK.out _ _ (fun h => absurd h (by decide)) ?_
        clear hK K
        try simp only [List.getElem_toArray, List.getElem_cons_zero, List.getElem_cons_succ, Act.put, List.setIfInBounds_toArray, List.set_cons_zero, List.set_cons_succ]
        refine wpAnyK_oneL (i := 15) rfl (by kernel_rfl) (fun K hK => ?_)
        refine stI w3 rfl _ _ rfl w1.heap.size (.slice ol k cl) l rfl hOq ((x - y) % m1) rfl (by rw [HLl.out]; omega) (by omega) ?_
        intro v' w5 hO5 hb5
        refine hK.out _ _ (fun h => absurd h (by decide)) ?_
        clear hK K
        try simp only [List.getElem_toArray, List.getElem_cons_zero, List.getElem_cons_succ, Act.put, List.setIfInBounds_toArray, List.set_cons_zero, List.set_cons_succ]
        refine wpAnyK_oneL (i := 16) rfl (by kernel_rfl) (fun K hK => ?_)
        go_simp
        (try go_wp2_with fail)
        refine hK.out _ _ (fun h => absurd h (by decide)) ?_
        clear hK K
        try simp only [List.getElem_toArray, List.getElem_cons_zero, List.getElem_cons_succ, Act.put, List.setIfInBounds_toArray, List.set_cons_zero, List.set_cons_succ]
        refine wpAnyK_done (by kernel_rfl) ?_ _
        go_wp2_with fail
        rw [← HSn.out] at hO5
        have hb6 : Below w1.heap.size w1 w5 := hbq.trans hb5
        go_wp2
        exact ⟨⟨k + 1, by omega, by go_num, hO5, hb6⟩, by simp [intOf]; omega⟩
      · obtain rfl : k = t.length - 1 := by omega
        obtain ⟨x0, x1⟩ := id Xr
        have i1 : ¬ ((t.length - 1 : Nat) : Int) + 1 < (t.length : Int) := by omega
        have Bq := B1.trans (hbr.mono B1s)
        go_wp2
        go_ret2
        exact ⟨_, rfl, hO.mono B1s, Bq, hlen⟩
  · have hR : crdR m t m1 xs = ⟨[], curC m t [(m1, xs)]⟩ := by simp [crdR, hc]
    rw [hR]
    clear hR
    obtain ⟨cc, hcc0⟩ : ∃ cc, curC m t [(m1, xs)] = cc := ⟨_, rfl⟩
    rw [hcc0] at hc ⊢
    have HC := Lib.hid hcc0
    clear hcc0
    have hcc : (cc != 0) = true := by simpa using hc
    clear hc
    go_enter Try.func35, Try.ntmps35
    go_wp2_with fail
    (have X0 := ((RB2.mk1 w  (.int .i64 m) (.slice o t.length c) 32).1).below (w' := ((w.alloc (.cells #[.int .i64 m, .slice o t.length c] 32)).alloc (.cells #[.int .i64 m1, .slice o1 xs.length c1] 34))) (by (repeat (first | exact Below.refl _ _ | (refine Below.setCell ?_ (by first | (simp; done) | (simp; omega) | omega) _) | (refine Below.alloc ?_ (by first | (simp; done) | (simp; omega) | omega) _) | (refine below_drewN ?_ _) | (refine Below.drew ?_)))) (Nat.le_refl _); have Y0 := ((RB2.mk2 w (.cells #[.int .i64 m, .slice o t.length c] 32) (.int .i64 m1) (.slice o1 xs.length c1) 34).1).below (w' := ((w.alloc (.cells #[.int .i64 m, .slice o t.length c] 32)).alloc (.cells #[.int .i64 m1, .slice o1 xs.length c1] 34))) (by (repeat (first | exact Below.refl _ _ | (refine Below.setCell ?_ (by first | (simp; done) | (simp; omega) | omega) _) | (refine Below.alloc ?_ (by first | (simp; done) | (simp; omega) | omega) _) | (refine below_drewN ?_ _) | (refine Below.drew ?_)))) (Nat.le_refl _); have B0 : Below w.heap.size w ((w.alloc (.cells #[.int .i64 m, .slice o t.length c] 32)).alloc (.cells #[.int .i64 m1, .slice o1 xs.length c1] 34)) := (by (repeat (first | exact Below.refl _ _ | (refine Below.setCell ?_ (by first | (simp; done) | (simp; omega) | omega) _) | (refine Below.alloc ?_ (by first | (simp; done) | (simp; omega) | omega) _) | (refine below_drewN ?_ _) | (refine Below.drew ?_)))); have hv0 := hv.below (w' := ((w.alloc (.cells #[.int .i64 m, .slice o t.length c] 32)).alloc (.cells #[.int .i64 m1, .slice o1 xs.length c1] 34))) (by (repeat (first | exact Below.refl _ _ | (refine Below.setCell ?_ (by first | (simp; done) | (simp; omega) | omega) _) | (refine Below.alloc ?_ (by first | (simp; done) | (simp; omega) | omega) _) | (refine below_drewN ?_ _) | (refine Below.drew ?_)))) (Nat.le_refl _); have hu0 := hu.below (w' := ((w.alloc (.cells #[.int .i64 m, .slice o t.length c] 32)).alloc (.cells #[.int .i64 m1, .slice o1 xs.length c1] 34))) (by (repeat (first | exact Below.refl _ _ | (refine Below.setCell ?_ (by first | (simp; done) | (simp; omega) | omega) _) | (refine Below.alloc ?_ (by first | (simp; done) | (simp; omega) | omega) _) | (refine below_drewN ?_ _) | (refine Below.drew ?_)))) (Nat.le_refl _); have HS0 := Lib.hid (show ((w.alloc (.cells #[.int .i64 m, .slice o t.length c] 32)).alloc (.cells #[.int .i64 m1, .slice o1 xs.length c1] 34)).heap.size = w.heap.size + 1 + 1 by simp); generalize (w.alloc (.cells #[.int .i64 m, .slice o t.length c] 32)).alloc (.cells #[.int .i64 m1, .slice o1 xs.length c1] 34) = w0 at X0 Y0 B0 hv0 hu0 HS0 ⊢)
    obtain ⟨x0, x1⟩ := id X0
    obtain ⟨y0, y1⟩ := id Y0
    go_wp2_with fail
    have hzb : Below w0.heap.size w0 (w0.alloc (.cells #[.int .i64 m1, .slice o1 xs.length c1] 34)) := (by (repeat (first | exact Below.refl _ _ | (refine Below.setCell ?_ (by first | (simp; done) | (simp; omega) | omega) _) | (refine Below.alloc ?_ (by first | (simp; done) | (simp; omega) | omega) _) | (refine below_drewN ?_ _) | (refine Below.drew ?_))))
    refine (l04Code_c m _ _ t [(m1, xs)] _ (hv0.below hzb (Nat.le_refl _)) (RdM.lit1c w0 HS0.out m1 _ xs hu0)).mono ?_
    clear hzb
    rw [HC.out]
    rintro e w1 ⟨rfl, hb⟩
    have hb := (show Below w0.heap.size w0 w1 from (by (repeat (first | exact Below.refl _ _ | (refine Below.setCell ?_ (by first | (simp; done) | (simp; omega) | omega) _) | (refine Below.alloc ?_ (by first | (simp; done) | (simp; omega) | omega) _) | (refine below_drewN ?_ _) | (refine Below.drew ?_) | (refine Below.trans ?_ (Below.mono hb (by first | (simp; done) | (simp; omega) | omega)))))))
    clear x0 x1 y0 y1 HS0
    (have X1 := X0.below hb (Nat.le_refl _); have B1 := B0.trans (hb.mono B0.size))
    clear hb
    go_wp2
    go_ret2
    exact ⟨_, rfl, OwI.nil _ _, B1, by simp⟩
end Go.Proofs.Ytdnkadlondediaa
