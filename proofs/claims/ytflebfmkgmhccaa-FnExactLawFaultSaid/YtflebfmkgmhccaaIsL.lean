/- Laws: is a plane one; its first fault. -/
import Derived.Test.YtflebfmkgmhccaaFauS
import Derived.Test.YtflebfmkgmhccaaPlaB
set_option linter.unusedSimpArgs false
set_option linter.unusedVariables false
namespace Go.Proofs.Ytflebfmkgmhccaa
open Go.RowKit

theorem eqlS_some (w : World) (a : Addr) (n c : Nat) : (binOp .eql 26 (.slice (some a) n c) (.slice none 0 0)).run Try.prog w = .ok (.bool false) w := by
  have h : ∀ d : Nat, (Op.equalIn (d + 1) 26 (.slice (some a) n c) (.slice none 0 0)).run Try.prog w = .ok false w := fun d => by
    simp [Op.equalIn, run_underlying Try.underlying26]
  simp only [binOp]
  simp [Op.equal, Op.maxDepth, h 9999]
theorem eqlS_none (w : World) : (binOp .eql 26 (.slice none 0 0) (.slice none 0 0)).run Try.prog w = .ok (.bool true) w := by
  have h : ∀ d : Nat, (Op.equalIn (d + 1) 26 (.slice none 0 0) (.slice none 0 0)).run Try.prog w = .ok true w := fun d => by
    simp [Op.equalIn, run_underlying Try.underlying26]
  simp only [binOp]
  simp [Op.equal, Op.maxDepth, h 9999]

structure IR where
  val : Int
  code : Int
def IEnd (w w' : World) (r : IR) (e : Ending) : Prop := e = .returned (.tuple #[.int .i64 r.val, .int .i64 r.code]) ∧ Below w.heap.size w w'
structure LR where
  xs : List Int
  code : Int
def LEnd (w w' : World) (r : LR) (e : Ending) : Prop :=
  ∃ v', e = .returned (.tuple #[v', .int .i64 r.code]) ∧ OwI w' w.heap.size v' r.xs ∧ Below w.heap.size w w' ∧ r.xs.length ≤ 1048576

def lawB (m : Int) (t : List (List Int)) : Bool := plaB m t && (fauL m t t.length).isEmpty
theorem lawB_t {m : Int} {t : List (List Int)} (h : lawB m t = true) : plaB m t = true ∧ fauL m t t.length = [] := by
  simpa [lawB] using h
def lawFaultR (m : Int) (t : List (List Int)) : LR := if plaB m t then (if (fauL m t t.length).isEmpty then ⟨[], 4⟩ else ⟨fauL m t t.length, 0⟩) else ⟨[], 1⟩

set_option maxHeartbeats 1000000 in
set_option maxRecDepth 100000 in
theorem IsLaw_c (m : Int) (v : Value) (t : List (List Int)) (w : World) (hv : RdT w v t) :
    Calls Try.prog 69 #[.agg #[.int .i64 m, v]] w fun e w' => e = .returned (.bool (lawB m t)) ∧ Below w.heap.size w w' := by
  obtain ⟨o, c, rfl, -, -⟩ := id hv
  cases h1 : plaB m t
  · have hR : lawB m t = false := by simp [lawB, h1]
    rw [hR]
    go_enter Try.func69, Try.ntmps69
    go_wp2_with fail
    (have X0 := ((RB2.mk1 w  (.int .i64 m) (.slice o t.length c) 29).1).below (w' := (w.alloc (.cells #[.int .i64 m, .slice o t.length c] 29))) (by (repeat (first | exact Below.refl _ _ | (refine Below.setCell ?_ (by first | (simp; done) | (simp; omega) | omega) _) | (refine Below.alloc ?_ (by first | (simp; done) | (simp; omega) | omega) _) | (refine below_drewN ?_ _) | (refine Below.drew ?_)))) (Nat.le_refl _); have B0 : Below w.heap.size w (w.alloc (.cells #[.int .i64 m, .slice o t.length c] 29)) := (by (repeat (first | exact Below.refl _ _ | (refine Below.setCell ?_ (by first | (simp; done) | (simp; omega) | omega) _) | (refine Below.alloc ?_ (by first | (simp; done) | (simp; omega) | omega) _) | (refine below_drewN ?_ _) | (refine Below.drew ?_)))); have hv0 := hv.below (w' := (w.alloc (.cells #[.int .i64 m, .slice o t.length c] 29))) (by (repeat (first | exact Below.refl _ _ | (refine Below.setCell ?_ (by first | (simp; done) | (simp; omega) | omega) _) | (refine Below.alloc ?_ (by first | (simp; done) | (simp; omega) | omega) _) | (refine below_drewN ?_ _) | (refine Below.drew ?_)))) (Nat.le_refl _); generalize w.alloc (.cells #[.int .i64 m, .slice o t.length c] 29) = w0 at X0 B0 hv0 ⊢)
    (obtain ⟨gqX0, gqX1⟩ := id X0; go_wp2_with fail; refine (IsPlane_c m _ t _ hv0).mono ?_; rw [h1]; rintro e w1 ⟨rfl, hb⟩; (have X1 := X0.below hb (Nat.le_refl _); have B1 := B0.trans (hb.mono B0.size)); clear gqX0 gqX1; clear hb)
    go_wp2
    go_ret
    exact ⟨rfl, B1⟩
  · have hm := pla_m h1
    have hn := pla_n h1
    have HP := Lib.hid (show PlaT m t.length t from ⟨rfl, pla_row h1⟩)
    have HR := Lib.hid (show lawB m t = (fauL m t t.length).isEmpty by simp [lawB, h1])
    go_enter Try.func69, Try.ntmps69
    go_wp2_with fail
    (have X0 := ((RB2.mk1 w  (.int .i64 m) (.slice o t.length c) 29).1).below (w' := (w.alloc (.cells #[.int .i64 m, .slice o t.length c] 29))) (by (repeat (first | exact Below.refl _ _ | (refine Below.setCell ?_ (by first | (simp; done) | (simp; omega) | omega) _) | (refine Below.alloc ?_ (by first | (simp; done) | (simp; omega) | omega) _) | (refine below_drewN ?_ _) | (refine Below.drew ?_)))) (Nat.le_refl _); have B0 : Below w.heap.size w (w.alloc (.cells #[.int .i64 m, .slice o t.length c] 29)) := (by (repeat (first | exact Below.refl _ _ | (refine Below.setCell ?_ (by first | (simp; done) | (simp; omega) | omega) _) | (refine Below.alloc ?_ (by first | (simp; done) | (simp; omega) | omega) _) | (refine below_drewN ?_ _) | (refine Below.drew ?_)))); have hv0 := hv.below (w' := (w.alloc (.cells #[.int .i64 m, .slice o t.length c] 29))) (by (repeat (first | exact Below.refl _ _ | (refine Below.setCell ?_ (by first | (simp; done) | (simp; omega) | omega) _) | (refine Below.alloc ?_ (by first | (simp; done) | (simp; omega) | omega) _) | (refine below_drewN ?_ _) | (refine Below.drew ?_)))) (Nat.le_refl _); generalize w.alloc (.cells #[.int .i64 m, .slice o t.length c] 29) = w0 at X0 B0 hv0 ⊢)
    (obtain ⟨gqX0, gqX1⟩ := id X0; go_wp2_with fail; refine (IsPlane_c m _ t _ hv0).mono ?_; rw [h1]; rintro e w1 ⟨rfl, hb⟩; (have X1 := X0.below hb (Nat.le_refl _); have hv1 := hv0.below hb (Nat.le_refl _); have B1 := B0.trans (hb.mono B0.size)); clear gqX0 gqX1; clear hb)
    obtain ⟨x0, x1⟩ := id X1
    go_wp2_with fail
    refine (axioms_c m t.length _ t _ hv1 (by omega) (by omega) (by omega) (by omega) HP.out).mono ?_
    rintro e w2 ⟨vf, rfl, how, hnil, hb⟩
    (have X2 := X1.below hb (Nat.le_refl _); have B2 := B1.trans (hb.mono B1.size))
    cases h2 : (fauL m t t.length).isEmpty
    · have hne : fauL m t t.length ≠ [] := by intro h; rw [h] at h2; cases h2
      have hln : 1 ≤ (fauL m t t.length).length := by
        cases h : fauL m t t.length with
        | nil => exact absurd h hne
        | cons => simp
      obtain ⟨of, cf, rfl⟩ := how.shape
      obtain ⟨g, rfl, -, -⟩ := how.row hln
      have hl0 : (((fauL m t t.length).length : Int) == 0) = false := by simp; omega
      have HR2 := Lib.hid (show lawB m t = false by rw [HR.out, h2])
      have hq := eqlS_some w2 ⟨g, 0, none⟩ (fauL m t t.length).length cf
      clear h2 hne hln
      go_wp2
      go_ret
      exact ⟨by rw [HR2.out]; rfl, B2⟩
    · have he : fauL m t t.length = [] := by simpa using h2
      obtain rfl := hnil he
      have HR2 := Lib.hid (show lawB m t = true by rw [HR.out, h2])
      have hq := eqlS_none w2
      clear h2 he
      go_wp2
      go_ret
      exact ⟨by rw [HR2.out]; rfl, B2⟩
set_option maxHeartbeats 1000000 in
set_option maxRecDepth 100000 in
theorem l04Is_c (m : Int) (v : Value) (t : List (List Int)) (w : World) (hv : RdT w v t) :
    Calls Try.prog 66 #[.agg #[.int .i64 m, v]] w fun e w' => e = .returned (.bool (lawB m t)) ∧ Below w.heap.size w w' := by
  obtain ⟨o, c, rfl, -, -⟩ := id hv
  cases h1 : plaB m t
  · have hR : lawB m t = false := by simp [lawB, h1]
    rw [hR]
    go_enter Try.func66, Try.ntmps66
    go_wp2_with fail
    (have X0 := ((RB2.mk1 w  (.int .i64 m) (.slice o t.length c) 29).1).below (w' := (w.alloc (.cells #[.int .i64 m, .slice o t.length c] 29))) (by (repeat (first | exact Below.refl _ _ | (refine Below.setCell ?_ (by first | (simp; done) | (simp; omega) | omega) _) | (refine Below.alloc ?_ (by first | (simp; done) | (simp; omega) | omega) _) | (refine below_drewN ?_ _) | (refine Below.drew ?_)))) (Nat.le_refl _); have B0 : Below w.heap.size w (w.alloc (.cells #[.int .i64 m, .slice o t.length c] 29)) := (by (repeat (first | exact Below.refl _ _ | (refine Below.setCell ?_ (by first | (simp; done) | (simp; omega) | omega) _) | (refine Below.alloc ?_ (by first | (simp; done) | (simp; omega) | omega) _) | (refine below_drewN ?_ _) | (refine Below.drew ?_)))); have hv0 := hv.below (w' := (w.alloc (.cells #[.int .i64 m, .slice o t.length c] 29))) (by (repeat (first | exact Below.refl _ _ | (refine Below.setCell ?_ (by first | (simp; done) | (simp; omega) | omega) _) | (refine Below.alloc ?_ (by first | (simp; done) | (simp; omega) | omega) _) | (refine below_drewN ?_ _) | (refine Below.drew ?_)))) (Nat.le_refl _); generalize w.alloc (.cells #[.int .i64 m, .slice o t.length c] 29) = w0 at X0 B0 hv0 ⊢)
    (obtain ⟨gqX0, gqX1⟩ := id X0; go_wp2_with fail; refine (l03Is_c m _ t _ hv0).mono ?_; rw [h1]; rintro e w1 ⟨rfl, hb⟩; (have X1 := X0.below hb (Nat.le_refl _); have B1 := B0.trans (hb.mono B0.size)); clear gqX0 gqX1; clear hb)
    go_wp2
    go_ret
    exact ⟨rfl, B1⟩
  · have hm := pla_m h1
    have hn := pla_n h1
    have HP := Lib.hid (show PlaT m t.length t from ⟨rfl, pla_row h1⟩)
    have HR := Lib.hid (show lawB m t = (fauL m t t.length).isEmpty by simp [lawB, h1])
    go_enter Try.func66, Try.ntmps66
    go_wp2_with fail
    (have X0 := ((RB2.mk1 w  (.int .i64 m) (.slice o t.length c) 29).1).below (w' := (w.alloc (.cells #[.int .i64 m, .slice o t.length c] 29))) (by (repeat (first | exact Below.refl _ _ | (refine Below.setCell ?_ (by first | (simp; done) | (simp; omega) | omega) _) | (refine Below.alloc ?_ (by first | (simp; done) | (simp; omega) | omega) _) | (refine below_drewN ?_ _) | (refine Below.drew ?_)))) (Nat.le_refl _); have B0 : Below w.heap.size w (w.alloc (.cells #[.int .i64 m, .slice o t.length c] 29)) := (by (repeat (first | exact Below.refl _ _ | (refine Below.setCell ?_ (by first | (simp; done) | (simp; omega) | omega) _) | (refine Below.alloc ?_ (by first | (simp; done) | (simp; omega) | omega) _) | (refine below_drewN ?_ _) | (refine Below.drew ?_)))); have hv0 := hv.below (w' := (w.alloc (.cells #[.int .i64 m, .slice o t.length c] 29))) (by (repeat (first | exact Below.refl _ _ | (refine Below.setCell ?_ (by first | (simp; done) | (simp; omega) | omega) _) | (refine Below.alloc ?_ (by first | (simp; done) | (simp; omega) | omega) _) | (refine below_drewN ?_ _) | (refine Below.drew ?_)))) (Nat.le_refl _); generalize w.alloc (.cells #[.int .i64 m, .slice o t.length c] 29) = w0 at X0 B0 hv0 ⊢)
    (obtain ⟨gqX0, gqX1⟩ := id X0; go_wp2_with fail; refine (l03Is_c m _ t _ hv0).mono ?_; rw [h1]; rintro e w1 ⟨rfl, hb⟩; (have X1 := X0.below hb (Nat.le_refl _); have hv1 := hv0.below hb (Nat.le_refl _); have B1 := B0.trans (hb.mono B0.size)); clear gqX0 gqX1; clear hb)
    obtain ⟨x0, x1⟩ := id X1
    go_wp2_with fail
    refine (l04Fault_c m t.length _ t _ hv1 (by omega) (by omega) (by omega) (by omega) HP.out).mono ?_
    rintro e w2 ⟨vf, rfl, how, hnil, hb⟩
    (have X2 := X1.below hb (Nat.le_refl _); have B2 := B1.trans (hb.mono B1.size))
    cases h2 : (fauL m t t.length).isEmpty
    · have hne : fauL m t t.length ≠ [] := by intro h; rw [h] at h2; cases h2
      have hln : 1 ≤ (fauL m t t.length).length := by
        cases h : fauL m t t.length with
        | nil => exact absurd h hne
        | cons => simp
      obtain ⟨of, cf, rfl⟩ := how.shape
      obtain ⟨g, rfl, -, -⟩ := how.row hln
      have hl0 : (((fauL m t t.length).length : Int) == 0) = false := by simp; omega
      have HR2 := Lib.hid (show lawB m t = false by rw [HR.out, h2])
      have hq := eqlS_some w2 ⟨g, 0, none⟩ (fauL m t t.length).length cf
      clear h2 hne hln
      go_wp2
      go_ret
      exact ⟨by rw [HR2.out]; rfl, B2⟩
    · have he : fauL m t t.length = [] := by simpa using h2
      obtain rfl := hnil he
      have HR2 := Lib.hid (show lawB m t = true by rw [HR.out, h2])
      have hq := eqlS_none w2
      clear h2 he
      go_wp2
      go_ret
      exact ⟨by rw [HR2.out]; rfl, B2⟩

set_option maxHeartbeats 1000000 in
set_option maxRecDepth 100000 in
theorem LawFault_c (m : Int) (v : Value) (t : List (List Int)) (w : World) (hv : RdT w v t) :
    Calls Try.prog 18 #[.agg #[.int .i64 m, v]] w fun e w' => LEnd w w' (lawFaultR m t) e := by
  obtain ⟨o, c, rfl, -, -⟩ := id hv
  cases h1 : plaB m t
  · have hR : lawFaultR m t = ⟨[], 1⟩ := by simp [lawFaultR, h1]
    rw [hR]
    go_enter Try.func18, Try.ntmps18
    go_wp2_with fail
    (have X0 := ((RB2.mk1 w  (.int .i64 m) (.slice o t.length c) 29).1).below (w' := (w.alloc (.cells #[.int .i64 m, .slice o t.length c] 29))) (by (repeat (first | exact Below.refl _ _ | (refine Below.setCell ?_ (by first | (simp; done) | (simp; omega) | omega) _) | (refine Below.alloc ?_ (by first | (simp; done) | (simp; omega) | omega) _) | (refine below_drewN ?_ _) | (refine Below.drew ?_)))) (Nat.le_refl _); have B0 : Below w.heap.size w (w.alloc (.cells #[.int .i64 m, .slice o t.length c] 29)) := (by (repeat (first | exact Below.refl _ _ | (refine Below.setCell ?_ (by first | (simp; done) | (simp; omega) | omega) _) | (refine Below.alloc ?_ (by first | (simp; done) | (simp; omega) | omega) _) | (refine below_drewN ?_ _) | (refine Below.drew ?_)))); have hv0 := hv.below (w' := (w.alloc (.cells #[.int .i64 m, .slice o t.length c] 29))) (by (repeat (first | exact Below.refl _ _ | (refine Below.setCell ?_ (by first | (simp; done) | (simp; omega) | omega) _) | (refine Below.alloc ?_ (by first | (simp; done) | (simp; omega) | omega) _) | (refine below_drewN ?_ _) | (refine Below.drew ?_)))) (Nat.le_refl _); generalize w.alloc (.cells #[.int .i64 m, .slice o t.length c] 29) = w0 at X0 B0 hv0 ⊢)
    (obtain ⟨gqX0, gqX1⟩ := id X0; go_wp2_with fail; refine (IsPlane_c m _ t _ hv0).mono ?_; rw [h1]; rintro e w1 ⟨rfl, hb⟩; (have X1 := X0.below hb (Nat.le_refl _); have B1 := B0.trans (hb.mono B0.size)); clear gqX0 gqX1; clear hb)
    go_wp2
    go_ret2
    exact ⟨_, rfl, OwI.nil _ _, B1, by simp⟩
  · have hm := pla_m h1
    have hn := pla_n h1
    have HP := Lib.hid (show PlaT m t.length t from ⟨rfl, pla_row h1⟩)
    have HR := Lib.hid (show lawFaultR m t = if (fauL m t t.length).isEmpty then ⟨[], 4⟩ else ⟨fauL m t t.length, 0⟩ by simp [lawFaultR, h1])
    go_enter Try.func18, Try.ntmps18
    go_wp2_with fail
    (have X0 := ((RB2.mk1 w  (.int .i64 m) (.slice o t.length c) 29).1).below (w' := (w.alloc (.cells #[.int .i64 m, .slice o t.length c] 29))) (by (repeat (first | exact Below.refl _ _ | (refine Below.setCell ?_ (by first | (simp; done) | (simp; omega) | omega) _) | (refine Below.alloc ?_ (by first | (simp; done) | (simp; omega) | omega) _) | (refine below_drewN ?_ _) | (refine Below.drew ?_)))) (Nat.le_refl _); have B0 : Below w.heap.size w (w.alloc (.cells #[.int .i64 m, .slice o t.length c] 29)) := (by (repeat (first | exact Below.refl _ _ | (refine Below.setCell ?_ (by first | (simp; done) | (simp; omega) | omega) _) | (refine Below.alloc ?_ (by first | (simp; done) | (simp; omega) | omega) _) | (refine below_drewN ?_ _) | (refine Below.drew ?_)))); have hv0 := hv.below (w' := (w.alloc (.cells #[.int .i64 m, .slice o t.length c] 29))) (by (repeat (first | exact Below.refl _ _ | (refine Below.setCell ?_ (by first | (simp; done) | (simp; omega) | omega) _) | (refine Below.alloc ?_ (by first | (simp; done) | (simp; omega) | omega) _) | (refine below_drewN ?_ _) | (refine Below.drew ?_)))) (Nat.le_refl _); generalize w.alloc (.cells #[.int .i64 m, .slice o t.length c] 29) = w0 at X0 B0 hv0 ⊢)
    (obtain ⟨gqX0, gqX1⟩ := id X0; go_wp2_with fail; refine (IsPlane_c m _ t _ hv0).mono ?_; rw [h1]; rintro e w1 ⟨rfl, hb⟩; (have X1 := X0.below hb (Nat.le_refl _); have hv1 := hv0.below hb (Nat.le_refl _); have B1 := B0.trans (hb.mono B0.size)); clear gqX0 gqX1; clear hb)
    obtain ⟨x0, x1⟩ := id X1
    go_wp2_with fail
    refine (axioms_c m t.length _ t _ hv1 (by omega) (by omega) (by omega) (by omega) HP.out).mono ?_
    rintro e w2 ⟨vf, rfl, how, hnil, hb⟩
    have how := how.mono B1.size
    have HL := Lib.hid (fauL_len m t t.length)
    (have X2 := X1.below hb (Nat.le_refl _); have B2 := B1.trans (hb.mono B1.size))
    cases h2 : (fauL m t t.length).isEmpty
    · have hne : fauL m t t.length ≠ [] := by intro h; rw [h] at h2; cases h2
      have hln : 1 ≤ (fauL m t t.length).length := by
        cases h : fauL m t t.length with
        | nil => exact absurd h hne
        | cons => simp
      obtain ⟨of, cf, rfl⟩ := how.shape
      obtain ⟨g, rfl, -, -⟩ := how.row hln
      have hl0 : (((fauL m t t.length).length : Int) == 0) = false := by simp; omega
      have HR2 := Lib.hid (show lawFaultR m t = ⟨fauL m t t.length, 0⟩ by rw [HR.out, h2]; rfl)
      have hq := eqlS_some w2 ⟨g, 0, none⟩ (fauL m t t.length).length cf
      clear h2 hne hln
      go_wp2
      go_ret2
      rw [HR2.out]
      exact ⟨_, rfl, how, B2, by have := HL.out; show (fauL m t t.length).length ≤ _; omega⟩
    · have he : fauL m t t.length = [] := by simpa using h2
      obtain rfl := hnil he
      have HR2 := Lib.hid (show lawFaultR m t = ⟨[], 4⟩ by rw [HR.out, h2]; rfl)
      have hq := eqlS_none w2
      clear h2 he
      go_wp2
      go_ret2
      rw [HR2.out]
      exact ⟨_, rfl, OwI.nil _ _, B2, by simp⟩
set_option maxHeartbeats 1000000 in
set_option maxRecDepth 100000 in
theorem sLawFault_c (m : Int) (v : Value) (t : List (List Int)) (w : World) (hv : RdT w v t) :
    Calls Try.prog 16 #[.agg #[.int .i64 m, v]] w fun e w' => LEnd w w' (lawFaultR m t) e := by
  obtain ⟨o, c, rfl, -, -⟩ := id hv
  cases h1 : plaB m t
  · have hR : lawFaultR m t = ⟨[], 1⟩ := by simp [lawFaultR, h1]
    rw [hR]
    go_enter Try.func16, Try.ntmps16
    go_wp2_with fail
    (have X0 := ((RB2.mk1 w  (.int .i64 m) (.slice o t.length c) 29).1).below (w' := (w.alloc (.cells #[.int .i64 m, .slice o t.length c] 29))) (by (repeat (first | exact Below.refl _ _ | (refine Below.setCell ?_ (by first | (simp; done) | (simp; omega) | omega) _) | (refine Below.alloc ?_ (by first | (simp; done) | (simp; omega) | omega) _) | (refine below_drewN ?_ _) | (refine Below.drew ?_)))) (Nat.le_refl _); have B0 : Below w.heap.size w (w.alloc (.cells #[.int .i64 m, .slice o t.length c] 29)) := (by (repeat (first | exact Below.refl _ _ | (refine Below.setCell ?_ (by first | (simp; done) | (simp; omega) | omega) _) | (refine Below.alloc ?_ (by first | (simp; done) | (simp; omega) | omega) _) | (refine below_drewN ?_ _) | (refine Below.drew ?_)))); have hv0 := hv.below (w' := (w.alloc (.cells #[.int .i64 m, .slice o t.length c] 29))) (by (repeat (first | exact Below.refl _ _ | (refine Below.setCell ?_ (by first | (simp; done) | (simp; omega) | omega) _) | (refine Below.alloc ?_ (by first | (simp; done) | (simp; omega) | omega) _) | (refine below_drewN ?_ _) | (refine Below.drew ?_)))) (Nat.le_refl _); generalize w.alloc (.cells #[.int .i64 m, .slice o t.length c] 29) = w0 at X0 B0 hv0 ⊢)
    (obtain ⟨gqX0, gqX1⟩ := id X0; go_wp2_with fail; refine (l03Is_c m _ t _ hv0).mono ?_; rw [h1]; rintro e w1 ⟨rfl, hb⟩; (have X1 := X0.below hb (Nat.le_refl _); have B1 := B0.trans (hb.mono B0.size)); clear gqX0 gqX1; clear hb)
    go_wp2
    go_ret2
    exact ⟨_, rfl, OwI.nil _ _, B1, by simp⟩
  · have hm := pla_m h1
    have hn := pla_n h1
    have HP := Lib.hid (show PlaT m t.length t from ⟨rfl, pla_row h1⟩)
    have HR := Lib.hid (show lawFaultR m t = if (fauL m t t.length).isEmpty then ⟨[], 4⟩ else ⟨fauL m t t.length, 0⟩ by simp [lawFaultR, h1])
    go_enter Try.func16, Try.ntmps16
    go_wp2_with fail
    (have X0 := ((RB2.mk1 w  (.int .i64 m) (.slice o t.length c) 29).1).below (w' := (w.alloc (.cells #[.int .i64 m, .slice o t.length c] 29))) (by (repeat (first | exact Below.refl _ _ | (refine Below.setCell ?_ (by first | (simp; done) | (simp; omega) | omega) _) | (refine Below.alloc ?_ (by first | (simp; done) | (simp; omega) | omega) _) | (refine below_drewN ?_ _) | (refine Below.drew ?_)))) (Nat.le_refl _); have B0 : Below w.heap.size w (w.alloc (.cells #[.int .i64 m, .slice o t.length c] 29)) := (by (repeat (first | exact Below.refl _ _ | (refine Below.setCell ?_ (by first | (simp; done) | (simp; omega) | omega) _) | (refine Below.alloc ?_ (by first | (simp; done) | (simp; omega) | omega) _) | (refine below_drewN ?_ _) | (refine Below.drew ?_)))); have hv0 := hv.below (w' := (w.alloc (.cells #[.int .i64 m, .slice o t.length c] 29))) (by (repeat (first | exact Below.refl _ _ | (refine Below.setCell ?_ (by first | (simp; done) | (simp; omega) | omega) _) | (refine Below.alloc ?_ (by first | (simp; done) | (simp; omega) | omega) _) | (refine below_drewN ?_ _) | (refine Below.drew ?_)))) (Nat.le_refl _); generalize w.alloc (.cells #[.int .i64 m, .slice o t.length c] 29) = w0 at X0 B0 hv0 ⊢)
    (obtain ⟨gqX0, gqX1⟩ := id X0; go_wp2_with fail; refine (l03Is_c m _ t _ hv0).mono ?_; rw [h1]; rintro e w1 ⟨rfl, hb⟩; (have X1 := X0.below hb (Nat.le_refl _); have hv1 := hv0.below hb (Nat.le_refl _); have B1 := B0.trans (hb.mono B0.size)); clear gqX0 gqX1; clear hb)
    obtain ⟨x0, x1⟩ := id X1
    go_wp2_with fail
    refine (l04Fault_c m t.length _ t _ hv1 (by omega) (by omega) (by omega) (by omega) HP.out).mono ?_
    rintro e w2 ⟨vf, rfl, how, hnil, hb⟩
    have how := how.mono B1.size
    have HL := Lib.hid (fauL_len m t t.length)
    (have X2 := X1.below hb (Nat.le_refl _); have B2 := B1.trans (hb.mono B1.size))
    cases h2 : (fauL m t t.length).isEmpty
    · have hne : fauL m t t.length ≠ [] := by intro h; rw [h] at h2; cases h2
      have hln : 1 ≤ (fauL m t t.length).length := by
        cases h : fauL m t t.length with
        | nil => exact absurd h hne
        | cons => simp
      obtain ⟨of, cf, rfl⟩ := how.shape
      obtain ⟨g, rfl, -, -⟩ := how.row hln
      have hl0 : (((fauL m t t.length).length : Int) == 0) = false := by simp; omega
      have HR2 := Lib.hid (show lawFaultR m t = ⟨fauL m t t.length, 0⟩ by rw [HR.out, h2]; rfl)
      have hq := eqlS_some w2 ⟨g, 0, none⟩ (fauL m t t.length).length cf
      clear h2 hne hln
      go_wp2
      go_ret2
      rw [HR2.out]
      exact ⟨_, rfl, how, B2, by have := HL.out; show (fauL m t t.length).length ≤ _; omega⟩
    · have he : fauL m t t.length = [] := by simpa using h2
      obtain rfl := hnil he
      have HR2 := Lib.hid (show lawFaultR m t = ⟨[], 4⟩ by rw [HR.out, h2]; rfl)
      have hq := eqlS_none w2
      clear h2 he
      go_wp2
      go_ret2
      rw [HR2.out]
      exact ⟨_, rfl, OwI.nil _ _, B2, by simp⟩
end Go.Proofs.Ytflebfmkgmhccaa
