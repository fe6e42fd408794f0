/- Lemmas of HomC. -/
import Derived.Test.YtdnkadlondediaaQcHomA
set_option linter.unusedSimpArgs false
set_option linter.unusedVariables false
namespace Go.Proofs.Ytdnkadlondediaa
open Go.RowKit

theorem l06All_d (m : Int) (v : Value) (t : List (List Int)) (m1 : Int) (u : Value) (s : List (List Int)) (va : Value) (pre : List Int) (mo : Int) (most : Nat) (w : World) (hmo : mo = (most : Int)) (hv : RdT w v t) (hu : RdT w u s) (ha : RdI w va pre) (h1 : 1 ≤ pre.length) (h2 : pre.length ≤ 2) (h0 : at0 pre 0 = 0) (hx : ∀ x ∈ pre, 0 ≤ x ∧ x < 2) (hm1 : 1 ≤ most) (hm2 : most ≤ 20000) :
    Calls Try.prog 100 #[.agg #[.int .i64 m, v], .agg #[.int .i64 m1, u], va, .int .i64 mo] w fun e w' => ∃ v', e = .returned (.tuple #[v', .int .i64 (allR m t m1 s pre most).code]) ∧ OwS w' w.heap.size v' (allR m t m1 s pre most).xss ∧ Below w.heap.size w w' := by
  subst hmo; exact l06All_c m v t m1 u s va pre most w hv hu ha h1 h2 h0 hx hm1 hm2
theorem lit01_rd (w : World) {b : Nat} (hb : w.heap.size = b) : RdI (w.alloc (.cells #[.int .i64 0, .int .i64 1] 2)) (.slice (some ⟨b, 0, none⟩) 2 2) [0, 1] := by
  subst hb; exact (OwI.lit w [0, 1] (by decide)).rd
def strR (m : Int) (t : List (List Int)) (m1 : Int) (s : List (List Int)) : SR :=
  if twoL m t m1 s = 0 then (if largeB m (t.length - 2) 1 then SR.bad 3 else (match homsL m t.length t s (t.length - 2) [0, 1] with | [] => SR.bad 4 | x :: _ => ⟨m, x, 0⟩)) else SR.bad (twoL m t m1 s)
theorem homs_take {m : Int} (hm : 0 < m) {n : Nat} {t s : List (List Int)} (ht : PlaT m n t) (hs : PlaT m n s) (ht0 : atT t 0 0 = 0) (hn : 2 ≤ n) :
    (if ([0, 1] : List Int).length = 2 ∧ homB m 2 (cutT 2 t) (cutT 2 s) [0, 1] = false then (TR.mk [] 0) else TR.mk (growL m.toNat n 1 (fitG m t s) (n - ([0, 1] : List Int).length) [0, 1] []) 0) = TR.mk ((homsL m n t s (n - 2) [0, 1]).take 1) 0 := by
  cases hb : homB m 2 (cutT 2 t) (cutT 2 s) [0, 1]
  · rw [if_pos ⟨rfl, rfl⟩]
    have : homsL m n t s (n - 2) [0, 1] = [] := by
      unfold homsL
      rw [List.filter_eq_nil_iff]
      intro xs hxs hfull
      obtain ⟨hl, htk, -⟩ := allC_mem hxs
      simp at hl htk
      have hx0 : at0 xs 0 = 0 := by rw [← at0_take (n := 2) (by omega), htk]; rfl
      have := homT_cut hm ht hs hx0 (by omega) ht0 (show 2 ≤ n by omega) (by omega) (homB_iff.1 hfull)
      rw [htk] at this
      rw [homB_iff.2 this] at hb
      cases hb
    rw [this]; rfl
  · rw [if_neg (by simp)]
    rw [grow_all hm ht hs ht0 1 (by omega) (by simp) (by simp [at0]) (by simp; omega) (fun h => ?_)]
    · rfl
    · simp at h
      have : n = 2 := by omega
      subst this
      rw [cutT_all ht, cutT_all hs] at hb
      exact hb
theorem allR_1 (m : Int) (t : List (List Int)) (m1 : Int) (s : List (List Int)) : allR m t m1 s [0, 1] 1 = if twoL m t m1 s = 0 then (if largeB m (t.length - 2) 1 then ⟨[], 3⟩ else ⟨(homsL m t.length t s (t.length - 2) [0, 1]).take 1, 0⟩) else ⟨[], twoL m t m1 s⟩ := by
  unfold allR
  by_cases hc : twoL m t m1 s = 0
  · rw [if_pos hc, if_pos hc]
    obtain ⟨a1, a2, e1, l1⟩ := twoL_0 hc
    subst e1
    have hn := pla_n (lawB_t a1).1
    have hm := pla_m (lawB_t a1).1
    have ht : PlaT m1 t.length t := ⟨rfl, pla_row (lawB_t a1).1⟩
    have hs : PlaT m1 t.length s := ⟨l1, by have := pla_row (lawB_t a2).1; exact this⟩
    rw [homs_take (by omega) ht hs (law_00 a1) (by omega)]
    rfl
  · rw [if_neg hc, if_neg hc]

set_option maxHeartbeats 2000000 in
set_option maxRecDepth 100000 in
theorem sStrictIsomorphism_c (m : Int) (v : Value) (t : List (List Int)) (m1 : Int) (u : Value) (s : List (List Int)) (w : World) (hv : RdT w v t) (hu : RdT w u s) :
    Calls Try.prog 45 #[.agg #[.int .i64 m, v], .agg #[.int .i64 m1, u]] w fun e w' => SEnd w w' (strR m t m1 s) e := by
  obtain ⟨o, c, rfl, -, -⟩ := id hv
  obtain ⟨o1, c1, rfl, -, -⟩ := id hu
  have HA := Lib.hid (allR_1 m t m1 s)
  have hxl : ∀ x ∈ homsL m t.length t s (t.length - 2) [0, 1], x.length = 2 + (t.length - 2) := fun x hx => (allC_mem (List.mem_filter.1 hx).1).1
  have HR := Lib.hid (show strR m t m1 s = if twoL m t m1 s = 0 then (if largeB m (t.length - 2) 1 then SR.bad 3 else (match homsL m t.length t s (t.length - 2) [0, 1] with | [] => SR.bad 4 | x :: _ => ⟨m, x, 0⟩)) else SR.bad (twoL m t m1 s) from rfl)
  by_cases hc : twoL m t m1 s = 0
  · have hn := pla_n (lawB_t (twoL_0 hc).1).1
    cases hb : largeB m (t.length - 2) 1
    · have HA2 := Lib.hid (show allR m t m1 s [0, 1] 1 = ⟨(homsL m t.length t s (t.length - 2) [0, 1]).take 1, 0⟩ by rw [HA.out, if_pos hc, hb]; rfl)
      have HR2 := Lib.hid (show strR m t m1 s = (match homsL m t.length t s (t.length - 2) [0, 1] with | [] => SR.bad 4 | x :: _ => ⟨m, x, 0⟩) by rw [HR.out, if_pos hc, hb]; rfl)
      clear HA HR hc hb
      generalize homsL m t.length t s (t.length - 2) [0, 1] = l at HA2 HR2 hxl
      generalize strR m t m1 s = rr at HR2 ⊢
      go_enter Try.func45, Try.ntmps45
      go_wp2_with fail
      (have X0 := ((RB2.mk1 w  (.int .i64 m) (.slice o t.length c) 32).1).below (w' := (((w.alloc (.cells #[.int .i64 m, .slice o t.length c] 32)).alloc (.cells #[.int .i64 m1, .slice o1 s.length c1] 32)).alloc (.cells #[.int .i64 0, .slice none 0 0] 34))) (by (repeat (first | exact Below.refl _ _ | (refine Below.setCell ?_ (by first | (simp; done) | (simp; omega) | omega) _) | (refine Below.alloc ?_ (by first | (simp; done) | (simp; omega) | omega) _) | (refine below_drewN ?_ _) | (refine Below.drew ?_)))) (Nat.le_refl _); have Y0 := ((RB2.mk2 w (.cells #[.int .i64 m, .slice o t.length c] 32) (.int .i64 m1) (.slice o1 s.length c1) 32).1).below (w' := (((w.alloc (.cells #[.int .i64 m, .slice o t.length c] 32)).alloc (.cells #[.int .i64 m1, .slice o1 s.length c1] 32)).alloc (.cells #[.int .i64 0, .slice none 0 0] 34))) (by (repeat (first | exact Below.refl _ _ | (refine Below.setCell ?_ (by first | (simp; done) | (simp; omega) | omega) _) | (refine Below.alloc ?_ (by first | (simp; done) | (simp; omega) | omega) _) | (refine below_drewN ?_ _) | (refine Below.drew ?_)))) (Nat.le_refl _); have R0 := ((RB2.mk3 w (.cells #[.int .i64 m, .slice o t.length c] 32) (.cells #[.int .i64 m1, .slice o1 s.length c1] 32) (.int .i64 0) (.slice none 0 0) 34)).below (w' := (((w.alloc (.cells #[.int .i64 m, .slice o t.length c] 32)).alloc (.cells #[.int .i64 m1, .slice o1 s.length c1] 32)).alloc (.cells #[.int .i64 0, .slice none 0 0] 34))) (by (repeat (first | exact Below.refl _ _ | (refine Below.setCell ?_ (by first | (simp; done) | (simp; omega) | omega) _) | (refine Below.alloc ?_ (by first | (simp; done) | (simp; omega) | omega) _) | (refine below_drewN ?_ _) | (refine Below.drew ?_)))) (Nat.le_refl _); have B0 : Below w.heap.size w (((w.alloc (.cells #[.int .i64 m, .slice o t.length c] 32)).alloc (.cells #[.int .i64 m1, .slice o1 s.length c1] 32)).alloc (.cells #[.int .i64 0, .slice none 0 0] 34)) := (by (repeat (first | exact Below.refl _ _ | (refine Below.setCell ?_ (by first | (simp; done) | (simp; omega) | omega) _) | (refine Below.alloc ?_ (by first | (simp; done) | (simp; omega) | omega) _) | (refine below_drewN ?_ _) | (refine Below.drew ?_)))); have hv0 := hv.below (w' := (((w.alloc (.cells #[.int .i64 m, .slice o t.length c] 32)).alloc (.cells #[.int .i64 m1, .slice o1 s.length c1] 32)).alloc (.cells #[.int .i64 0, .slice none 0 0] 34))) (by (repeat (first | exact Below.refl _ _ | (refine Below.setCell ?_ (by first | (simp; done) | (simp; omega) | omega) _) | (refine Below.alloc ?_ (by first | (simp; done) | (simp; omega) | omega) _) | (refine below_drewN ?_ _) | (refine Below.drew ?_)))) (Nat.le_refl _); have hu0 := hu.below (w' := (((w.alloc (.cells #[.int .i64 m, .slice o t.length c] 32)).alloc (.cells #[.int .i64 m1, .slice o1 s.length c1] 32)).alloc (.cells #[.int .i64 0, .slice none 0 0] 34))) (by (repeat (first | exact Below.refl _ _ | (refine Below.setCell ?_ (by first | (simp; done) | (simp; omega) | omega) _) | (refine Below.alloc ?_ (by first | (simp; done) | (simp; omega) | omega) _) | (refine below_drewN ?_ _) | (refine Below.drew ?_)))) (Nat.le_refl _); have HS0 := Lib.hid (show (((w.alloc (.cells #[.int .i64 m, .slice o t.length c] 32)).alloc (.cells #[.int .i64 m1, .slice o1 s.length c1] 32)).alloc (.cells #[.int .i64 0, .slice none 0 0] 34)).heap.size = w.heap.size + 1 + 1 + 1 by simp); generalize ((w.alloc (.cells #[.int .i64 m, .slice o t.length c] 32)).alloc (.cells #[.int .i64 m1, .slice o1 s.length c1] 32)).alloc (.cells #[.int .i64 0, .slice none 0 0] 34) = w0 at X0 Y0 R0 B0 hv0 hu0 HS0 ⊢)
      obtain ⟨x0, x1⟩ := id X0
      obtain ⟨y0, y1⟩ := id Y0
      go_wp2_with fail
      have hzb : Below w0.heap.size w0 (w0.alloc (.cells #[.int .i64 0, .int .i64 1] 2)) := (by (repeat (first | exact Below.refl _ _ | (refine Below.setCell ?_ (by first | (simp; done) | (simp; omega) | omega) _) | (refine Below.alloc ?_ (by first | (simp; done) | (simp; omega) | omega) _) | (refine below_drewN ?_ _) | (refine Below.drew ?_))))
      refine (l06All_d m _ t m1 _ s _ [0, 1] _ 1 _ (by omega) (hv0.below hzb (Nat.le_refl _)) (hu0.below hzb (Nat.le_refl _)) (lit01_rd w0 HS0.out) (by simp) (by simp) (by simp [at0]) (by simp) (by omega) (by omega)).mono ?_
      rw [HA2.out]
      rintro e w1 ⟨vl, rfl, how, hb⟩
      have hb := (show Below w0.heap.size w0 w1 from (by (repeat (first | exact Below.refl _ _ | (refine Below.setCell ?_ (by first | (simp; done) | (simp; omega) | omega) _) | (refine Below.alloc ?_ (by first | (simp; done) | (simp; omega) | omega) _) | (refine below_drewN ?_ _) | (refine Below.drew ?_) | (refine Below.trans ?_ (Below.mono hb (by first | (simp; done) | (simp; omega) | omega)))))))
      have HZ := HS0
      clear HS0 x0 x1 y0 y1 hzb HA2
      (have X1 := X0.below hb (Nat.le_refl _); have R1 := R0.below hb (Nat.le_refl _); have B1 := B0.trans (hb.mono B0.size))
      clear hb
      cases l with
      | nil =>
        obtain ⟨ol, cl, rfl⟩ := how.shapeN (n := 0) rfl
        obtain ⟨⟨r0, r1⟩, rf⟩ := id R1
        obtain rfl : rr = SR.bad 4 := HR2.out
        clear HR2
        go_wp2_with fail
        (obtain ⟨⟨r0, r1⟩, rf⟩ := id R1; go_wp2; exact bodyPost_ret (v := .tuple #[.agg #[.int .i64 0, .slice none 0 0], .int .i64 4]) (by simp [results, Try.results45, go_sem, r0, r1]) rfl ⟨_, rfl, OwI.nil _ _, (by (repeat (first | exact Below.refl _ _ | (refine Below.setCell ?_ (by first | (simp; done) | (simp; omega) | omega) _) | (refine Below.alloc ?_ (by first | (simp; done) | (simp; omega) | omega) _) | (refine below_drewN ?_ _) | (refine Below.drew ?_) | (refine Below.trans ?_ (Below.mono B1 (by first | (simp; done) | (simp; omega) | omega)))))), by simp [SR.bad]⟩)
      | cons x l =>
        have hz0 := HZ.out
        have how := how.mono (show w0.heap.size ≤ (w0.alloc (.cells #[.int .i64 0, .int .i64 1] 2)).heap.size by simp)
        obtain ⟨ol, cl, rfl⟩ := how.shapeN (n := 1) rfl
        obtain ⟨g, rfl, hgl, hgl'⟩ := how.row (by omega)
        obtain ⟨oa, ca, hcx, hod0, -⟩ := how.get (k := 0) (row := x) rfl
        have hlx := hxl x (by simp)
        have hlen : x.length ≤ 1048576 := by omega
        have cc : Cel1 w1 g 0 (.slice oa x.length ca) := ⟨hcx⟩
        have HLx := Lib.hid hlx
        obtain rfl : rr = ⟨m, x, 0⟩ := HR2.out
        clear hxl hcx hlx how HR2
        go_wp2_with fail
        have hd0 : Below w1.heap.size w1 w1.drew := (Below.refl _ _).drew
        have hsd0 := hd0.size
        have hrl := R1.1.lt
        have hneR_X1 : w.heap.size + 1 + 1 ≠ w.heap.size := by omega
        have hneg : w.heap.size + 1 + 1 ≠ g := by omega
        have hneg' : g ≠ w.heap.size + 1 + 1 := by omega
        obtain ⟨⟨q0_R_0, q0_R_1⟩, qf0_R⟩ := R1.below (Below.refl w1.heap.size w1) (Nat.le_refl _)
        obtain ⟨q0_X1_0, q0_X1_1⟩ := X1.below (Below.refl w1.heap.size w1) (Nat.le_refl _)
        have q0_c := (((cc).below (Below.refl w1.heap.size w1) (Nat.le_refl _))).get
        go_region_held3 (fun w' => w'.cell? ⟨w.heap.size, 0, none⟩ = some (.int .i64 m) ∧ w'.cell? ⟨w.heap.size, 1, none⟩ = some (.slice o t.length c) ∧ w'.cell? ⟨g, 0, none⟩ = some (.slice oa x.length ca)) (go_keep)
          (first
            | (go_at_call 65; refine (l02Make_c m _ _ _ _).mono ?_; rintro e wd1 ⟨rfl, hbd1⟩; have hd1 : Below w1.heap.size w1 wd1 := (by (repeat (first | exact Below.refl _ _ | (refine Below.setCell ?_ (by first | (simp; done) | (simp; omega) | omega) _) | (refine Below.alloc ?_ (by first | (simp; done) | (simp; omega) | omega) _) | (refine below_drewN ?_ _) | (refine Below.drew ?_) | (refine Below.trans ?_ (Below.mono hbd1 (by first | (simp; done) | (simp; omega) | omega)))))); have hsd1 := hd1.size; have hsz1_ := hbd1.size; (try simp at hsz1_); obtain ⟨⟨q1_R_0, q1_R_1⟩, qf1_R⟩ := R1.below hd1 (Nat.le_refl _); obtain ⟨q1_X1_0, q1_X1_1⟩ := X1.below hd1 (Nat.le_refl _); have q1_c := (((cc).below hd1 (Nat.le_refl _))).get))
        go_wp2
        refine bodyPost_ret (v := .tuple #[.agg #[.int .i64 m, .slice oa x.length ca], .int .i64 0]) (by simp [results, Try.results45, go_sem, q1_R_0, q1_R_1]) rfl ⟨_, rfl, ?_, ?_, hlen⟩
        · have hbsz := B1.size
          exact (((hod0.below (by (repeat (first | exact Below.refl _ _ | (refine Below.setCell ?_ (by first | (simp; done) | (simp; omega) | omega) _) | (refine Below.alloc ?_ (by first | (simp; done) | (simp; omega) | omega) _) | (refine below_drewN ?_ _) | (refine Below.drew ?_) | (refine Below.trans ?_ (Below.mono hbd1 (by first | (simp; done) | (simp; omega) | omega))))))).low (by first | (simp; done) | (simp; omega) | omega) _).low (by first | (simp; done) | (simp; omega) | omega) _).mono (by first | (simp; done) | (simp; omega) | omega)
        · have hbsz := B1.size
          (repeat (first | exact Below.refl _ _ | (refine Below.setCell ?_ (by first | (simp; done) | (simp; omega) | omega) _) | (refine Below.alloc ?_ (by first | (simp; done) | (simp; omega) | omega) _) | (refine below_drewN ?_ _) | (refine Below.drew ?_) | (refine Below.trans ?_ (Below.mono hbd1 (by first | (simp; done) | (simp; omega) | omega))) | (refine Below.trans ?_ (Below.mono B1 (by first | (simp; done) | (simp; omega) | omega)))))
    · have hR : strR m t m1 s = SR.bad 3 := by rw [HR.out, if_pos hc, hb]; rfl
      have HA2 := Lib.hid (show allR m t m1 s [0, 1] 1 = ⟨[], 3⟩ by rw [HA.out, if_pos hc, hb]; rfl)
      rw [hR]
      clear HR HA hR hc hb
      go_enter Try.func45, Try.ntmps45
      go_wp2_with fail
      (have X0 := ((RB2.mk1 w  (.int .i64 m) (.slice o t.length c) 32).1).below (w' := (((w.alloc (.cells #[.int .i64 m, .slice o t.length c] 32)).alloc (.cells #[.int .i64 m1, .slice o1 s.length c1] 32)).alloc (.cells #[.int .i64 0, .slice none 0 0] 34))) (by (repeat (first | exact Below.refl _ _ | (refine Below.setCell ?_ (by first | (simp; done) | (simp; omega) | omega) _) | (refine Below.alloc ?_ (by first | (simp; done) | (simp; omega) | omega) _) | (refine below_drewN ?_ _) | (refine Below.drew ?_)))) (Nat.le_refl _); have Y0 := ((RB2.mk2 w (.cells #[.int .i64 m, .slice o t.length c] 32) (.int .i64 m1) (.slice o1 s.length c1) 32).1).below (w' := (((w.alloc (.cells #[.int .i64 m, .slice o t.length c] 32)).alloc (.cells #[.int .i64 m1, .slice o1 s.length c1] 32)).alloc (.cells #[.int .i64 0, .slice none 0 0] 34))) (by (repeat (first | exact Below.refl _ _ | (refine Below.setCell ?_ (by first | (simp; done) | (simp; omega) | omega) _) | (refine Below.alloc ?_ (by first | (simp; done) | (simp; omega) | omega) _) | (refine below_drewN ?_ _) | (refine Below.drew ?_)))) (Nat.le_refl _); have R0 := ((RB2.mk3 w (.cells #[.int .i64 m, .slice o t.length c] 32) (.cells #[.int .i64 m1, .slice o1 s.length c1] 32) (.int .i64 0) (.slice none 0 0) 34)).below (w' := (((w.alloc (.cells #[.int .i64 m, .slice o t.length c] 32)).alloc (.cells #[.int .i64 m1, .slice o1 s.length c1] 32)).alloc (.cells #[.int .i64 0, .slice none 0 0] 34))) (by (repeat (first | exact Below.refl _ _ | (refine Below.setCell ?_ (by first | (simp; done) | (simp; omega) | omega) _) | (refine Below.alloc ?_ (by first | (simp; done) | (simp; omega) | omega) _) | (refine below_drewN ?_ _) | (refine Below.drew ?_)))) (Nat.le_refl _); have B0 : Below w.heap.size w (((w.alloc (.cells #[.int .i64 m, .slice o t.length c] 32)).alloc (.cells #[.int .i64 m1, .slice o1 s.length c1] 32)).alloc (.cells #[.int .i64 0, .slice none 0 0] 34)) := (by (repeat (first | exact Below.refl _ _ | (refine Below.setCell ?_ (by first | (simp; done) | (simp; omega) | omega) _) | (refine Below.alloc ?_ (by first | (simp; done) | (simp; omega) | omega) _) | (refine below_drewN ?_ _) | (refine Below.drew ?_)))); have hv0 := hv.below (w' := (((w.alloc (.cells #[.int .i64 m, .slice o t.length c] 32)).alloc (.cells #[.int .i64 m1, .slice o1 s.length c1] 32)).alloc (.cells #[.int .i64 0, .slice none 0 0] 34))) (by (repeat (first | exact Below.refl _ _ | (refine Below.setCell ?_ (by first | (simp; done) | (simp; omega) | omega) _) | (refine Below.alloc ?_ (by first | (simp; done) | (simp; omega) | omega) _) | (refine below_drewN ?_ _) | (refine Below.drew ?_)))) (Nat.le_refl _); have hu0 := hu.below (w' := (((w.alloc (.cells #[.int .i64 m, .slice o t.length c] 32)).alloc (.cells #[.int .i64 m1, .slice o1 s.length c1] 32)).alloc (.cells #[.int .i64 0, .slice none 0 0] 34))) (by (repeat (first | exact Below.refl _ _ | (refine Below.setCell ?_ (by first | (simp; done) | (simp; omega) | omega) _) | (refine Below.alloc ?_ (by first | (simp; done) | (simp; omega) | omega) _) | (refine below_drewN ?_ _) | (refine Below.drew ?_)))) (Nat.le_refl _); have HS0 := Lib.hid (show (((w.alloc (.cells #[.int .i64 m, .slice o t.length c] 32)).alloc (.cells #[.int .i64 m1, .slice o1 s.length c1] 32)).alloc (.cells #[.int .i64 0, .slice none 0 0] 34)).heap.size = w.heap.size + 1 + 1 + 1 by simp); generalize ((w.alloc (.cells #[.int .i64 m, .slice o t.length c] 32)).alloc (.cells #[.int .i64 m1, .slice o1 s.length c1] 32)).alloc (.cells #[.int .i64 0, .slice none 0 0] 34) = w0 at X0 Y0 R0 B0 hv0 hu0 HS0 ⊢)
      obtain ⟨x0, x1⟩ := id X0
      obtain ⟨y0, y1⟩ := id Y0
      go_wp2_with fail
      have hzb : Below w0.heap.size w0 (w0.alloc (.cells #[.int .i64 0, .int .i64 1] 2)) := (by (repeat (first | exact Below.refl _ _ | (refine Below.setCell ?_ (by first | (simp; done) | (simp; omega) | omega) _) | (refine Below.alloc ?_ (by first | (simp; done) | (simp; omega) | omega) _) | (refine below_drewN ?_ _) | (refine Below.drew ?_))))
      refine (l06All_d m _ t m1 _ s _ [0, 1] _ 1 _ (by omega) (hv0.below hzb (Nat.le_refl _)) (hu0.below hzb (Nat.le_refl _)) (lit01_rd w0 HS0.out) (by simp) (by simp) (by simp [at0]) (by simp) (by omega) (by omega)).mono ?_
      rw [HA2.out]
      rintro e w1 ⟨vl, rfl, how, hb⟩
      have hb := (show Below w0.heap.size w0 w1 from (by (repeat (first | exact Below.refl _ _ | (refine Below.setCell ?_ (by first | (simp; done) | (simp; omega) | omega) _) | (refine Below.alloc ?_ (by first | (simp; done) | (simp; omega) | omega) _) | (refine below_drewN ?_ _) | (refine Below.drew ?_) | (refine Below.trans ?_ (Below.mono hb (by first | (simp; done) | (simp; omega) | omega)))))))
      clear HS0 x0 x1 y0 y1 hzb HA2
      (have R1 := R0.below hb (Nat.le_refl _); have B1 := B0.trans (hb.mono B0.size))
      clear hb
      obtain ⟨⟨r0', r1'⟩, rf'⟩ := id R1
      (obtain ⟨⟨r0, r1⟩, rf⟩ := id R1; go_wp2; exact bodyPost_ret (v := .tuple #[.agg #[.int .i64 0, .slice none 0 0], .int .i64 3]) (by simp [results, Try.results45, go_sem, r0, r1]) rfl ⟨_, rfl, OwI.nil _ _, (by (repeat (first | exact Below.refl _ _ | (refine Below.setCell ?_ (by first | (simp; done) | (simp; omega) | omega) _) | (refine Below.alloc ?_ (by first | (simp; done) | (simp; omega) | omega) _) | (refine below_drewN ?_ _) | (refine Below.drew ?_) | (refine Below.trans ?_ (Below.mono B1 (by first | (simp; done) | (simp; omega) | omega)))))), by simp [SR.bad]⟩)
  · have hR : strR m t m1 s = SR.bad (twoL m t m1 s) := by rw [HR.out, if_neg hc]
    have HA2 := Lib.hid (show allR m t m1 s [0, 1] 1 = ⟨[], twoL m t m1 s⟩ by rw [HA.out, if_neg hc])
    rw [hR]
    clear HR HA hR
    obtain ⟨cc, hcc0⟩ : ∃ cc, twoL m t m1 s = cc := ⟨_, rfl⟩
    rw [hcc0] at hc HA2 ⊢
    clear hcc0
    have hcc : (cc != 0) = true := by simpa using hc
    clear hc
    go_enter Try.func45, Try.ntmps45
    go_wp2_with fail
    (have X0 := ((RB2.mk1 w  (.int .i64 m) (.slice o t.length c) 32).1).below (w' := (((w.alloc (.cells #[.int .i64 m, .slice o t.length c] 32)).alloc (.cells #[.int .i64 m1, .slice o1 s.length c1] 32)).alloc (.cells #[.int .i64 0, .slice none 0 0] 34))) (by (repeat (first | exact Below.refl _ _ | (refine Below.setCell ?_ (by first | (simp; done) | (simp; omega) | omega) _) | (refine Below.alloc ?_ (by first | (simp; done) | (simp; omega) | omega) _) | (refine below_drewN ?_ _) | (refine Below.drew ?_)))) (Nat.le_refl _); have Y0 := ((RB2.mk2 w (.cells #[.int .i64 m, .slice o t.length c] 32) (.int .i64 m1) (.slice o1 s.length c1) 32).1).below (w' := (((w.alloc (.cells #[.int .i64 m, .slice o t.length c] 32)).alloc (.cells #[.int .i64 m1, .slice o1 s.length c1] 32)).alloc (.cells #[.int .i64 0, .slice none 0 0] 34))) (by (repeat (first | exact Below.refl _ _ | (refine Below.setCell ?_ (by first | (simp; done) | (simp; omega) | omega) _) | (refine Below.alloc ?_ (by first | (simp; done) | (simp; omega) | omega) _) | (refine below_drewN ?_ _) | (refine Below.drew ?_)))) (Nat.le_refl _); have R0 := ((RB2.mk3 w (.cells #[.int .i64 m, .slice o t.length c] 32) (.cells #[.int .i64 m1, .slice o1 s.length c1] 32) (.int .i64 0) (.slice none 0 0) 34)).below (w' := (((w.alloc (.cells #[.int .i64 m, .slice o t.length c] 32)).alloc (.cells #[.int .i64 m1, .slice o1 s.length c1] 32)).alloc (.cells #[.int .i64 0, .slice none 0 0] 34))) (by (repeat (first | exact Below.refl _ _ | (refine Below.setCell ?_ (by first | (simp; done) | (simp; omega) | omega) _) | (refine Below.alloc ?_ (by first | (simp; done) | (simp; omega) | omega) _) | (refine below_drewN ?_ _) | (refine Below.drew ?_)))) (Nat.le_refl _); have B0 : Below w.heap.size w (((w.alloc (.cells #[.int .i64 m, .slice o t.length c] 32)).alloc (.cells #[.int .i64 m1, .slice o1 s.length c1] 32)).alloc (.cells #[.int .i64 0, .slice none 0 0] 34)) := (by (repeat (first | exact Below.refl _ _ | (refine Below.setCell ?_ (by first | (simp; done) | (simp; omega) | omega) _) | (refine Below.alloc ?_ (by first | (simp; done) | (simp; omega) | omega) _) | (refine below_drewN ?_ _) | (refine Below.drew ?_)))); have hv0 := hv.below (w' := (((w.alloc (.cells #[.int .i64 m, .slice o t.length c] 32)).alloc (.cells #[.int .i64 m1, .slice o1 s.length c1] 32)).alloc (.cells #[.int .i64 0, .slice none 0 0] 34))) (by (repeat (first | exact Below.refl _ _ | (refine Below.setCell ?_ (by first | (simp; done) | (simp; omega) | omega) _) | (refine Below.alloc ?_ (by first | (simp; done) | (simp; omega) | omega) _) | (refine below_drewN ?_ _) | (refine Below.drew ?_)))) (Nat.le_refl _); have hu0 := hu.below (w' := (((w.alloc (.cells #[.int .i64 m, .slice o t.length c] 32)).alloc (.cells #[.int .i64 m1, .slice o1 s.length c1] 32)).alloc (.cells #[.int .i64 0, .slice none 0 0] 34))) (by (repeat (first | exact Below.refl _ _ | (refine Below.setCell ?_ (by first | (simp; done) | (simp; omega) | omega) _) | (refine Below.alloc ?_ (by first | (simp; done) | (simp; omega) | omega) _) | (refine below_drewN ?_ _) | (refine Below.drew ?_)))) (Nat.le_refl _); have HS0 := Lib.hid (show (((w.alloc (.cells #[.int .i64 m, .slice o t.length c] 32)).alloc (.cells #[.int .i64 m1, .slice o1 s.length c1] 32)).alloc (.cells #[.int .i64 0, .slice none 0 0] 34)).heap.size = w.heap.size + 1 + 1 + 1 by simp); generalize ((w.alloc (.cells #[.int .i64 m, .slice o t.length c] 32)).alloc (.cells #[.int .i64 m1, .slice o1 s.length c1] 32)).alloc (.cells #[.int .i64 0, .slice none 0 0] 34) = w0 at X0 Y0 R0 B0 hv0 hu0 HS0 ⊢)
    obtain ⟨x0, x1⟩ := id X0
    obtain ⟨y0, y1⟩ := id Y0
    go_wp2_with fail
    have hzb : Below w0.heap.size w0 (w0.alloc (.cells #[.int .i64 0, .int .i64 1] 2)) := (by (repeat (first | exact Below.refl _ _ | (refine Below.setCell ?_ (by first | (simp; done) | (simp; omega) | omega) _) | (refine Below.alloc ?_ (by first | (simp; done) | (simp; omega) | omega) _) | (refine below_drewN ?_ _) | (refine Below.drew ?_))))
    refine (l06All_d m _ t m1 _ s _ [0, 1] _ 1 _ (by omega) (hv0.below hzb (Nat.le_refl _)) (hu0.below hzb (Nat.le_refl _)) (lit01_rd w0 HS0.out) (by simp) (by simp) (by simp [at0]) (by simp) (by omega) (by omega)).mono ?_
    rw [HA2.out]
    rintro e w1 ⟨vl, rfl, how, hb⟩
    have hb := (show Below w0.heap.size w0 w1 from (by (repeat (first | exact Below.refl _ _ | (refine Below.setCell ?_ (by first | (simp; done) | (simp; omega) | omega) _) | (refine Below.alloc ?_ (by first | (simp; done) | (simp; omega) | omega) _) | (refine below_drewN ?_ _) | (refine Below.drew ?_) | (refine Below.trans ?_ (Below.mono hb (by first | (simp; done) | (simp; omega) | omega)))))))
    clear HS0 x0 x1 y0 y1 hzb HA2
    (have R1 := R0.below hb (Nat.le_refl _); have B1 := B0.trans (hb.mono B0.size))
    clear hb
    obtain ⟨⟨r0', r1'⟩, rf'⟩ := id R1
    (obtain ⟨⟨r0, r1⟩, rf⟩ := id R1; go_wp2; exact bodyPost_ret (v := .tuple #[.agg #[.int .i64 0, .slice none 0 0], .int .i64 cc]) (by simp [results, Try.results45, go_sem, r0, r1]) rfl ⟨_, rfl, OwI.nil _ _, (by (repeat (first | exact Below.refl _ _ | (refine Below.setCell ?_ (by first | (simp; done) | (simp; omega) | omega) _) | (refine Below.alloc ?_ (by first | (simp; done) | (simp; omega) | omega) _) | (refine below_drewN ?_ _) | (refine Below.drew ?_) | (refine Below.trans ?_ (Below.mono B1 (by first | (simp; done) | (simp; omega) | omega)))))), by simp [SR.bad]⟩)
end Go.Proofs.Ytdnkadlondediaa
