/- Differentials, logarithms and exponentials of laws. -/
import Derived.Test.YtdnkadlondediaaSRef
import Derived.Test.YtdnkadlondediaaInvL
import Derived.Test.YtdnkadlondediaaG5
import Derived.Test.YtdnkadlondediaaCopy
set_option linter.unusedSimpArgs false
set_option linter.unusedVariables false
namespace Go.Proofs.Ytdnkadlondediaa
open Go.RowKit

theorem fauL_due {m : Int} {t : List (List Int)} {n : Nat} (h : fauL m t n = []) : ∀ i, i < n → atT t i 0 = dueI i := by
  cases e : fau1 t n with
  | nil =>
    intro i hi
    unfold fau1 at e
    rw [List.flatMap_eq_nil_iff] at e
    have := e i (List.mem_range.2 hi)
    split at this
    · assumption
    · cases this
  | cons l ls =>
    unfold fauL at h
    rw [e] at h
    have hl : l ∈ fau1 t n := by rw [e]; simp
    obtain ⟨i, -, rfl, -⟩ := mem_fau1 hl
    simp at h
theorem invM_1 {m : Int} (hm : 2 ≤ m) : invM m 1 = 1 := by
  unfold invM
  have e1 : (1 : Int) % m = 1 := Int.emod_eq_of_lt (by omega) (by omega)
  rw [e1, show (1 : Int).toNat = 1 from rfl, eu_s (by decide), Nat.mod_one, eu_0, e1]

def difL (m : Int) (t : List (List Int)) : List Int := invS m (t.length - 1) (t.getD 1 [])
def logL (m : Int) (t : List (List Int)) : List Int := intL m (difL m t)
theorem logL_2 {m : Int} (hm : 2 ≤ m) {t : List (List Int)} (h2 : t.length = 2) (h : atT t 1 0 = 1) : varL 2 = logL m t := by
  have h' : at0 (t.getD 1 []) 0 = 1 := h
  have e : difL m t = [1] := by
    unfold difL; rw [h2]
    show [invM m (at0 (t.getD 1 []) 0)] = [1]
    rw [h', invM_1 hm]
  unfold logL
  rw [e]
  show varL 2 = 0 :: mk 1 (intC m [1])
  have e2 : intC m [1] 0 = 1 := by
    show (1 : Int) * invM m (0 + 1) % m = 1
    rw [Int.zero_add, invM_1 hm, Int.one_mul]
    exact Int.emod_eq_of_lt (by omega) (by omega)
  simp [varL, mk, e2, List.replicate_succ]
theorem difL_range {m : Int} (hm : 0 < m) (t : List (List Int)) : ∀ x ∈ difL m t, 0 ≤ x ∧ x < m := invG_range hm _ _
theorem difL_len {m : Int} {t : List (List Int)} (h : 2 ≤ t.length) : (difL m t).length = t.length - 1 := invS_len _ (by omega)
theorem logL_len {m : Int} {t : List (List Int)} (h : 2 ≤ t.length) : (logL m t).length = t.length := by unfold logL; rw [intL_len, difL_len h]; omega
theorem logL_range {m : Int} (hm : 0 < m) (t : List (List Int)) : ∀ x ∈ logL m t, 0 ≤ x ∧ x < m := intL_range hm _
theorem getD_of {t : List (List Int)} {r : List Int} (h : t[1]? = some r) : t.getD 1 [] = r := by simp [List.getD, h]

def difR (m : Int) (t : List (List Int)) : SR := if lawB m t then (if t.length = 2 then SR.bad 5 else ⟨m, difL m t, 0⟩) else SR.bad 1
def logC (m : Int) (t : List (List Int)) : Int := if lawB m t then (if unitsB m (t.length - 1) then 0 else 5) else 1
theorem logC_0 {m : Int} {t : List (List Int)} (h : logC m t = 0) : lawB m t = true ∧ unitsB m (t.length - 1) = true := by
  unfold logC at h
  split at h
  · rename_i h1
    split at h
    · rename_i h2; exact ⟨h1, h2⟩
    · cases h
  · cases h
def logR (m : Int) (t : List (List Int)) : SR := if logC m t = 0 then ⟨m, logL m t, 0⟩ else SR.bad (logC m t)
def expR (m : Int) (t : List (List Int)) : SR := if logC m t = 0 then ⟨m, revL m t.length (logL m t), 0⟩ else SR.bad (logC m t)

theorem areUnits_d (m d : Int) (n : Nat) (w : World) (hd : d = (n : Int)) (hm : 2 ≤ m) (hm' : m ≤ 1000000000000) (hn : n ≤ 1000000) :
    Calls Try.prog 70 #[.int .i64 m, .int .i64 d] w fun e w' => e = .returned (.bool (unitsB m n)) ∧ ∃ d, w' = w.drewN d := by
  subst hd; exact areUnits_c m n w hm hm' hn
theorem l02Integers_d (m d : Int) (n : Nat) (w : World) (hd : d = (n : Int)) (hm : 2 ≤ m) (hm' : m ≤ 1000000000000) (hn : n ≤ 1000000) :
    Calls Try.prog 62 #[.int .i64 m, .int .i64 d] w fun e w' => e = .returned (.bool (unitsB m n)) ∧ w = w' := by
  subst hd; exact l02Integers_c m n w hm hm' hn

set_option maxHeartbeats 2000000 in
set_option maxRecDepth 100000 in
theorem differential_c (m : Int) (n : Nat) (v : Value) (t : List (List Int)) (w : World) (hv : RdT w v t) (h1 : 2 ≤ n) (hn : n ≤ 1000) (hm : 2 ≤ m) (hm' : m ≤ 10000) (ht : PlaT m n t) :
    Calls Try.prog 131 #[.agg #[.int .i64 m, v]] w fun e w' => SVEnd w w' m (difL m t) e := by
  obtain ⟨o, c, rfl, hmt, -⟩ := id hv
  have hv' : RdT w (.slice o n c) t := by rw [ht.1] at hv; exact hv
  have hD : difL m t = invS m (n - 1) (t.getD 1 []) := by unfold difL; rw [ht.1]
  rw [ht.1] at hmt ⊢
  rw [hD]
  obtain ⟨r, hr, hrl, hrj⟩ := ht.row (show 1 < n by omega)
  rw [getD_of hr]
  have hrx := ht.rowx hr
  obtain ⟨bt, ft, rfl, -⟩ := hv'.rows (by rw [ht.1]; omega)
  obtain ⟨o1, c1, cx, rx⟩ := hv'.row hr
  rw [hrl] at cx rx
  obtain ⟨b1, f1, rfl, -⟩ := rx.cells (by omega)
  have lx := cell_lt cx
  have HRL := Lib.hid hrl
  have HRX := Lib.hid hrx
  clear hr hrj hv hD hrl hrx ht
  unfold maxLen at hmt
  go_enter Try.func131, Try.ntmps131
  go_wp2_with fail
  (have X0 := ((RB2.mk1 w  (.int .i64 m) (.slice (some ⟨bt, ft, none⟩) n c) 32).1).below (w' := ((w.alloc (.cells #[.int .i64 m, .slice (some ⟨bt, ft, none⟩) n c] 32)).alloc (.cells #[.int .i64 0, .slice none 0 0] 34))) (by (repeat (first | exact Below.refl _ _ | (refine Below.setCell ?_ (by first | (simp; done) | (simp; omega) | omega) _) | (refine Below.alloc ?_ (by first | (simp; done) | (simp; omega) | omega) _) | (refine below_drewN ?_ _) | (refine Below.drew ?_)))) (Nat.le_refl _); have R0 := ((RB2.mk2 w (.cells #[.int .i64 m, .slice (some ⟨bt, ft, none⟩) n c] 32) (.int .i64 0) (.slice none 0 0) 34)).below (w' := ((w.alloc (.cells #[.int .i64 m, .slice (some ⟨bt, ft, none⟩) n c] 32)).alloc (.cells #[.int .i64 0, .slice none 0 0] 34))) (by (repeat (first | exact Below.refl _ _ | (refine Below.setCell ?_ (by first | (simp; done) | (simp; omega) | omega) _) | (refine Below.alloc ?_ (by first | (simp; done) | (simp; omega) | omega) _) | (refine below_drewN ?_ _) | (refine Below.drew ?_)))) (Nat.le_refl _); have B0 : Below w.heap.size w ((w.alloc (.cells #[.int .i64 m, .slice (some ⟨bt, ft, none⟩) n c] 32)).alloc (.cells #[.int .i64 0, .slice none 0 0] 34)) := (by (repeat (first | exact Below.refl _ _ | (refine Below.setCell ?_ (by first | (simp; done) | (simp; omega) | omega) _) | (refine Below.alloc ?_ (by first | (simp; done) | (simp; omega) | omega) _) | (refine below_drewN ?_ _) | (refine Below.drew ?_)))); have rx0 := rx.below (w' := ((w.alloc (.cells #[.int .i64 m, .slice (some ⟨bt, ft, none⟩) n c] 32)).alloc (.cells #[.int .i64 0, .slice none 0 0] 34))) (by (repeat (first | exact Below.refl _ _ | (refine Below.setCell ?_ (by first | (simp; done) | (simp; omega) | omega) _) | (refine Below.alloc ?_ (by first | (simp; done) | (simp; omega) | omega) _) | (refine below_drewN ?_ _) | (refine Below.drew ?_)))) (Nat.le_refl _); generalize (w.alloc (.cells #[.int .i64 m, .slice (some ⟨bt, ft, none⟩) n c] 32)).alloc (.cells #[.int .i64 0, .slice none 0 0] 34) = w0 at X0 R0 B0 rx0 ⊢)
  have cx0 := keep_cell B0 (Nat.le_refl _) cx
  have lx0 := cell_lt cx0
  have cx0c : Cel1 w0 bt (ft + 1) (.slice (some ⟨b1, f1, none⟩) (n - 1) c1) := ⟨cx0⟩
  have i1 : (1 : Int) < (n : Int) := by omega
  have i2 : 1 < n := by omega
  have hd0 : Below w0.heap.size w0 w0.drew := (Below.refl _ _).drew
  have hsd0 := hd0.size
  have hrl := R0.1.lt
  have hneR_X0 : w.heap.size + 1 ≠ w.heap.size := by omega
  have hneT : w.heap.size + 1 ≠ bt := by omega
  obtain ⟨⟨q0_R_0, q0_R_1⟩, qf0_R⟩ := R0.below (Below.refl w0.heap.size w0) (Nat.le_refl _)
  obtain ⟨q0_X0_0, q0_X0_1⟩ := X0.below (Below.refl w0.heap.size w0) (Nat.le_refl _)
  have q0_cx := (((cx0c).below (Below.refl w0.heap.size w0) (Nat.le_refl _))).get
  go_region_held3 (fun w' => w'.cell? ⟨w.heap.size, 0, none⟩ = some (.int .i64 m) ∧ w'.cell? ⟨w.heap.size, 1, none⟩ = some (.slice (some ⟨bt, ft, none⟩) n c) ∧ w'.cell? ⟨bt, ft + 1, none⟩ = some (.slice (some ⟨b1, f1, none⟩) (n - 1) c1)) (go_keep)
    (first
      | (go_at_call 164; refine (copyOfI_c _ _ _ r _ ((rx0).below (by (repeat (first | exact Below.refl _ _ | (refine Below.setCell ?_ (by first | (simp; done) | (simp; omega) | omega) _) | (refine Below.alloc ?_ (by first | (simp; done) | (simp; omega) | omega) _) | (refine below_drewN ?_ _) | (refine Below.drew ?_)))) (Nat.le_refl _)) (by rw [HRL.out]; omega)).mono ?_; rintro e wd1 ⟨vi, rfl, hod1, hbd1⟩; obtain ⟨oi, ci, rfl⟩ := hod1.shapeN (n := n - 1) HRL.out; have hd1 : Below w0.heap.size w0 wd1 := (by (repeat (first | exact Below.refl _ _ | (refine Below.setCell ?_ (by first | (simp; done) | (simp; omega) | omega) _) | (refine Below.alloc ?_ (by first | (simp; done) | (simp; omega) | omega) _) | (refine below_drewN ?_ _) | (refine Below.drew ?_) | (refine Below.trans ?_ (Below.mono hbd1 (by first | (simp; done) | (simp; omega) | omega)))))); have hsd1 := hd1.size; have hsz1_ := hbd1.size; (try simp at hsz1_); obtain ⟨⟨q1_R_0, q1_R_1⟩, qf1_R⟩ := R0.below hd1 (Nat.le_refl _); obtain ⟨q1_X0_0, q1_X0_1⟩ := X0.below hd1 (Nat.le_refl _); have q1_cx := (((cx0c).below hd1 (Nat.le_refl _))).get)
      | (go_at_call 165; refine (inverseS_c m _ r _ (((hod1.below (by (repeat (first | exact Below.refl _ _ | (refine Below.setCell ?_ (by first | (simp; done) | (simp; omega) | omega) _) | (refine Below.alloc ?_ (by first | (simp; done) | (simp; omega) | omega) _) | (refine below_drewN ?_ _) | (refine Below.drew ?_)))))).rd) (by rw [HRL.out]; omega) (by rw [HRL.out]; omega) hm hm' HRX.out).mono ?_; rintro e wd2 ⟨vk, rfl, hod2, hbd2⟩; rw [HRL.out] at hod2; obtain ⟨ok, ck, rfl⟩ := hod2.shapeN (n := n - 1) (invS_len _ (by omega)); have hd2 : Below w0.heap.size w0 wd2 := (by (repeat (first | exact Below.refl _ _ | (refine Below.setCell ?_ (by first | (simp; done) | (simp; omega) | omega) _) | (refine Below.alloc ?_ (by first | (simp; done) | (simp; omega) | omega) _) | (refine below_drewN ?_ _) | (refine Below.drew ?_) | (refine Below.trans ?_ (Below.mono hbd1 (by first | (simp; done) | (simp; omega) | omega))) | (refine Below.trans ?_ (Below.mono hbd2 (by first | (simp; done) | (simp; omega) | omega)))))); have hsd2 := hd2.size; have hsz2_ := hbd2.size; (try simp at hsz2_); obtain ⟨⟨q2_R_0, q2_R_1⟩, qf2_R⟩ := R0.below hd2 (Nat.le_refl _); obtain ⟨q2_X0_0, q2_X0_1⟩ := X0.below hd2 (Nat.le_refl _); have q2_cx := (((cx0c).below hd2 (Nat.le_refl _))).get))
  go_wp2
  refine bodyPost_ret (v := .agg #[.int .i64 m, .slice ok (n - 1) ck]) (by simp [results, Try.results131, go_sem, q2_R_0, q2_R_1]) rfl ⟨_, rfl, ?_, ?_⟩
  · have hbsz := B0.size
    exact ((hod2.low (by first | (simp; done) | (simp; omega) | omega) _).low (by first | (simp; done) | (simp; omega) | omega) _).mono (by first | (simp; done) | (simp; omega) | omega)
  · have hbsz := B0.size
    (repeat (first | exact Below.refl _ _ | (refine Below.setCell ?_ (by first | (simp; done) | (simp; omega) | omega) _) | (refine Below.alloc ?_ (by first | (simp; done) | (simp; omega) | omega) _) | (refine below_drewN ?_ _) | (refine Below.drew ?_) | (refine Below.trans ?_ (Below.mono hbd1 (by first | (simp; done) | (simp; omega) | omega))) | (refine Below.trans ?_ (Below.mono hbd2 (by first | (simp; done) | (simp; omega) | omega))) | (refine Below.trans ?_ (Below.mono B0 (by first | (simp; done) | (simp; omega) | omega)))))


set_option maxHeartbeats 2000000 in
set_option maxRecDepth 100000 in
theorem l05Logarithm_c (m : Int) (n : Nat) (v : Value) (t : List (List Int)) (w : World) (hv : RdT w v t) (h1 : 2 ≤ n) (hn : n ≤ 1000) (hm : 2 ≤ m) (hm' : m ≤ 10000) (ht : PlaT m n t) :
    Calls Try.prog 63 #[.agg #[.int .i64 m, v]] w fun e w' => ∃ v', e = .returned v' ∧ OwI w' w.heap.size v' (logL m t) ∧ Below w.heap.size w w' := by
  obtain ⟨o, c, rfl, hmt, -⟩ := id hv
  have hv' : RdT w (.slice o n c) t := by rw [ht.1] at hv; exact hv
  have hD : logL m t = intL m (invS m (n - 1) (t.getD 1 [])) := by unfold logL difL; rw [ht.1]
  rw [ht.1] at hmt ⊢
  rw [hD]
  obtain ⟨r, hr, hrl, hrj⟩ := ht.row (show 1 < n by omega)
  rw [getD_of hr]
  have hrx := ht.rowx hr
  obtain ⟨bt, ft, rfl, -⟩ := hv'.rows (by rw [ht.1]; omega)
  obtain ⟨o1, c1, cx, rx⟩ := hv'.row hr
  rw [hrl] at cx rx
  have lx := cell_lt cx
  have HRL := Lib.hid hrl
  have HRX := Lib.hid hrx
  clear hr hrj hv hD hrl hrx ht
  unfold maxLen at hmt
  have e00 : IntKind.i64.wrap (n : Int) = (n : Int) := IntWalk.i64_in _ (by omega)
  have e01 : IntKind.i64.wrap ((n : Int) - 2) = (n : Int) - 2 := IntWalk.i64_in _ (by omega)
  have i1 : (1 : Int) < (n : Int) := by omega
  have i2 : 1 < n := by omega
  go_enter Try.func63, Try.ntmps63
  go_wp2_with fail
  (have X0 := ((RB2.mk1 w  (.int .i64 m) (.slice (some ⟨bt, ft, none⟩) n c) 32).1).below (w' := (w.alloc (.cells #[.int .i64 m, .slice (some ⟨bt, ft, none⟩) n c] 32))) (by (repeat (first | exact Below.refl _ _ | (refine Below.setCell ?_ (by first | (simp; done) | (simp; omega) | omega) _) | (refine Below.alloc ?_ (by first | (simp; done) | (simp; omega) | omega) _) | (refine below_drewN ?_ _) | (refine Below.drew ?_)))) (Nat.le_refl _); have B0 : Below w.heap.size w (w.alloc (.cells #[.int .i64 m, .slice (some ⟨bt, ft, none⟩) n c] 32)) := (by (repeat (first | exact Below.refl _ _ | (refine Below.setCell ?_ (by first | (simp; done) | (simp; omega) | omega) _) | (refine Below.alloc ?_ (by first | (simp; done) | (simp; omega) | omega) _) | (refine below_drewN ?_ _) | (refine Below.drew ?_)))); have rx0 := rx.below (w' := (w.alloc (.cells #[.int .i64 m, .slice (some ⟨bt, ft, none⟩) n c] 32))) (by (repeat (first | exact Below.refl _ _ | (refine Below.setCell ?_ (by first | (simp; done) | (simp; omega) | omega) _) | (refine Below.alloc ?_ (by first | (simp; done) | (simp; omega) | omega) _) | (refine below_drewN ?_ _) | (refine Below.drew ?_)))) (Nat.le_refl _); generalize w.alloc (.cells #[.int .i64 m, .slice (some ⟨bt, ft, none⟩) n c] 32) = w0 at X0 B0 rx0 ⊢)
  have cx0 := keep_cell B0 (Nat.le_refl _) cx
  have B0s := B0.size
  go_wp2_with fail
  have hd0 : Below w0.heap.size w0 w0.drew := (Below.refl _ _).drew
  have hsd0 := hd0.size
  obtain ⟨f0_a, f0_b⟩ := ((X0).below (Below.refl w0.heap.size w0) (Nat.le_refl _))
  have f0_c := keep_cell hd0 (Nat.le_refl _) cx0
  refine wp_region_K (S := fun w' => w'.cell? ⟨w.heap.size, 0, none⟩ = some (.int .i64 m) ∧ w'.cell? ⟨w.heap.size, 1, none⟩ = some (.slice (some ⟨bt, ft, none⟩) n c) ∧ w'.cell? ⟨bt, ft + 1, none⟩ = some (.slice o1 (n - 1) c1)) [] (by kernel_rfl) ?_
  have hHeld : (fun w' : World => w'.cell? ⟨w.heap.size, 0, none⟩ = some (.int .i64 m) ∧ w'.cell? ⟨w.heap.size, 1, none⟩ = some (.slice (some ⟨bt, ft, none⟩) n c) ∧ w'.cell? ⟨bt, ft + 1, none⟩ = some (.slice o1 (n - 1) c1)) w0.drew := by go_keep
  refine' wpAnyK_takeL (i := 0) (v := _) rfl (by kernel_rfl) (by kernel_rfl) (by kernel_rfl) (by kernel_rfl) (fun _ _ _ h => h) (Or.inl ⟨by rfl, ?yT11⟩) hHeld ?rT11
  case yT11 => (intro w' hSw; (try dsimp only at hSw); go_simp; try with_reducible rfl)
  try simp only [List.getElem_toArray, List.getElem_cons_zero, List.getElem_cons_succ, Act.put, List.setIfInBounds_toArray, List.set_cons_zero, List.set_cons_succ]
  refine' wpAnyK_takeL (i := 1) (v := _) rfl (by kernel_rfl) (by kernel_rfl) (by kernel_rfl) (by kernel_rfl) (fun _ _ _ h => h) (Or.inl ⟨by rfl, ?yT12⟩) hHeld ?rT12
  case yT12 => (intro w' hSw; (try dsimp only at hSw); go_simp; try with_reducible rfl)
  try simp only [List.getElem_toArray, List.getElem_cons_zero, List.getElem_cons_succ, Act.put, List.setIfInBounds_toArray, List.set_cons_zero, List.set_cons_succ]
  refine' wpAnyK_takeL (i := 2) (v := _) rfl (by kernel_rfl) (by kernel_rfl) (by kernel_rfl) (by kernel_rfl) (fun _ _ _ h => h) (Or.inl ⟨by rfl, ?yT13⟩) hHeld ?rT13
  case yT13 => (intro w' hSw; (try dsimp only at hSw); go_simp; try with_reducible rfl)
  try simp only [List.getElem_toArray, List.getElem_cons_zero, List.getElem_cons_succ, Act.put, List.setIfInBounds_toArray, List.set_cons_zero, List.set_cons_succ]
  refine' wpAnyK_takeL (i := 3) (v := _) rfl (by kernel_rfl) (by kernel_rfl) (by kernel_rfl) (by kernel_rfl) (fun _ _ _ h => h) (Or.inl ⟨by rfl, ?yT14⟩) hHeld ?rT14
  case yT14 => (intro w' hSw; (try dsimp only at hSw); go_simp; try with_reducible rfl)
  try simp only [List.getElem_toArray, List.getElem_cons_zero, List.getElem_cons_succ, Act.put, List.setIfInBounds_toArray, List.set_cons_zero, List.set_cons_succ]
  refine' wpAnyK_takeL (i := 4) (v := _) rfl (by kernel_rfl) (by kernel_rfl) (by kernel_rfl) (by kernel_rfl) (fun _ _ _ h => h) (Or.inl ⟨by rfl, ?yT15⟩) hHeld ?rT15
  case yT15 => (intro w' hSw; (try dsimp only at hSw); go_simp; try with_reducible rfl)
  try simp only [List.getElem_toArray, List.getElem_cons_zero, List.getElem_cons_succ, Act.put, List.setIfInBounds_toArray, List.set_cons_zero, List.set_cons_succ]
  refine' wpAnyK_takeL (i := 5) (v := _) rfl (by kernel_rfl) (by kernel_rfl) (by kernel_rfl) (by kernel_rfl) (fun _ _ _ h => h) (Or.inl ⟨by rfl, ?yT16⟩) hHeld ?rT16
  case yT16 => (intro w' hSw; (try dsimp only at hSw); go_simp; try with_reducible rfl)
  try simp only [List.getElem_toArray, List.getElem_cons_zero, List.getElem_cons_succ, Act.put, List.setIfInBounds_toArray, List.set_cons_zero, List.set_cons_succ]
  refine' wpAnyK_takeL (i := 6) (v := _) rfl (by kernel_rfl) (by kernel_rfl) (by kernel_rfl) (by kernel_rfl) (fun _ _ _ h => h) (Or.inl ⟨by rfl, ?yT17⟩) hHeld ?rT17
  case yT17 => (intro w' hSw; (try dsimp only at hSw); go_simp; try with_reducible rfl)
  try simp only [List.getElem_toArray, List.getElem_cons_zero, List.getElem_cons_succ, Act.put, List.setIfInBounds_toArray, List.set_cons_zero, List.set_cons_succ]
  refine' wpAnyK_takeL (i := 7) (v := _) rfl (by kernel_rfl) (by kernel_rfl) (by kernel_rfl) (by kernel_rfl) (fun _ _ _ h => h) (Or.inl ⟨by rfl, ?yT18⟩) hHeld ?rT18
  case yT18 => (intro w' hSw; (try dsimp only at hSw); go_simp; try with_reducible rfl)
  try simp only [List.getElem_toArray, List.getElem_cons_zero, List.getElem_cons_succ, Act.put, List.setIfInBounds_toArray, List.set_cons_zero, List.set_cons_succ]
  refine' wpAnyK_takeL (i := 8) (v := _) rfl (by kernel_rfl) (by kernel_rfl) (by kernel_rfl) (by kernel_rfl) (fun _ _ _ h => h) (Or.inl ⟨by rfl, ?yT19⟩) hHeld ?rT19
  case yT19 => (intro w' hSw; (try dsimp only at hSw); go_simp; try with_reducible rfl)
  try simp only [List.getElem_toArray, List.getElem_cons_zero, List.getElem_cons_succ, Act.put, List.setIfInBounds_toArray, List.set_cons_zero, List.set_cons_succ]
  refine' wpAnyK_takeL (i := 9) (v := _) rfl (by kernel_rfl) (by kernel_rfl) (by kernel_rfl) (by kernel_rfl) (fun _ _ _ h => h) (Or.inl ⟨by rfl, ?yT20⟩) hHeld ?rT20
  case yT20 => (intro w' hSw; (try dsimp only at hSw); go_simp; try with_reducible rfl)
  try simp only [List.getElem_toArray, List.getElem_cons_zero, List.getElem_cons_succ, Act.put, List.setIfInBounds_toArray, List.set_cons_zero, List.set_cons_succ]
  refine' wpAnyK_takeL (i := 10) (v := _) rfl (by kernel_rfl) (by kernel_rfl) (by kernel_rfl) (by kernel_rfl) (fun _ _ _ h => h) (Or.inl ⟨by rfl, ?yT21⟩) hHeld ?rT21
  case yT21 => (intro w' hSw; (try dsimp only at hSw); go_simp; try with_reducible rfl)
  try simp only [List.getElem_toArray, List.getElem_cons_zero, List.getElem_cons_succ, Act.put, List.setIfInBounds_toArray, List.set_cons_zero, List.set_cons_succ]
  refine' wpAnyK_takeL (i := 11) (v := _) rfl (by kernel_rfl) (by kernel_rfl) (by kernel_rfl) (by kernel_rfl) (fun _ _ _ h => h) (Or.inl ⟨by rfl, ?yT22⟩) hHeld ?rT22
  case yT22 => (intro w' hSw; (try dsimp only at hSw); go_simp; try with_reducible rfl)
  try simp only [List.getElem_toArray, List.getElem_cons_zero, List.getElem_cons_succ, Act.put, List.setIfInBounds_toArray, List.set_cons_zero, List.set_cons_succ]
  refine wpAnyK_oneL (i := 12) rfl (by kernel_rfl) (fun K hK => ?_)
  go_simp
  go_at_call 123
  refine (l02Inverse_c m ((n : Int) - 2) (n - 1) _ r _ (by omega) ((rx0).below (by (repeat (first | exact Below.refl _ _ | (refine Below.setCell ?_ (by first | (simp; done) | (simp; omega) | omega) _) | (refine Below.alloc ?_ (by first | (simp; done) | (simp; omega) | omega) _) | (refine below_drewN ?_ _) | (refine Below.drew ?_)))) (Nat.le_refl _)) HRL.out (by omega) (by omega) hm hm' HRX.out).mono ?_
  rintro e wd1 ⟨vk, rfl, hod1, hbd1⟩
  obtain ⟨ok, ck, rfl⟩ := hod1.shapeN (n := n - 1) (invS_len _ (by omega))
  have hd1 : Below w0.heap.size w0 wd1 := (by (repeat (first | exact Below.refl _ _ | (refine Below.setCell ?_ (by first | (simp; done) | (simp; omega) | omega) _) | (refine Below.alloc ?_ (by first | (simp; done) | (simp; omega) | omega) _) | (refine below_drewN ?_ _) | (refine Below.drew ?_) | (refine Below.trans ?_ (Below.mono hbd1 (by first | (simp; done) | (simp; omega) | omega))))))
  have hsd1 := hd1.size
  obtain ⟨f1_a, f1_b⟩ := ((X0).below hd1 (Nat.le_refl _))
  have f1_c := keep_cell hd1 (Nat.le_refl _) cx0
  go_wp2_with fail
  clear hHeld
  have hHeld : (fun w' : World => w'.cell? ⟨w.heap.size, 0, none⟩ = some (.int .i64 m) ∧ w'.cell? ⟨w.heap.size, 1, none⟩ = some (.slice (some ⟨bt, ft, none⟩) n c) ∧ w'.cell? ⟨bt, ft + 1, none⟩ = some (.slice o1 (n - 1) c1)) wd1 := by go_keep
  refine hK.out _ _ (fun _ => hHeld) ?_
  clear hK K
  try simp only [List.getElem_toArray, List.getElem_cons_zero, List.getElem_cons_succ, Act.put, List.setIfInBounds_toArray, List.set_cons_zero, List.set_cons_succ]
  refine wpAnyK_oneL (i := 13) rfl (by kernel_rfl) (fun K hK => ?_)
  go_simp
  go_at_call 122
  refine (l02Integrate_c m _ (invS m (n - 1) r) _ (((hod1.below (by (repeat (first | exact Below.refl _ _ | (refine Below.setCell ?_ (by first | (simp; done) | (simp; omega) | omega) _) | (refine Below.alloc ?_ (by first | (simp; done) | (simp; omega) | omega) _) | (refine below_drewN ?_ _) | (refine Below.drew ?_)))))).rd) (by rw [invS_len _ (by omega)]; omega) hm hm' (invG_range (by omega) _ _)).mono ?_
  rintro e wd2 ⟨vl, rfl, hod2, hbd2⟩
  have hd2 : Below w0.heap.size w0 wd2 := (by (repeat (first | exact Below.refl _ _ | (refine Below.setCell ?_ (by first | (simp; done) | (simp; omega) | omega) _) | (refine Below.alloc ?_ (by first | (simp; done) | (simp; omega) | omega) _) | (refine below_drewN ?_ _) | (refine Below.drew ?_) | (refine Below.trans ?_ (Below.mono hbd1 (by first | (simp; done) | (simp; omega) | omega))) | (refine Below.trans ?_ (Below.mono hbd2 (by first | (simp; done) | (simp; omega) | omega))))))
  have hsd2 := hd2.size
  obtain ⟨f2_a, f2_b⟩ := ((X0).below hd2 (Nat.le_refl _))
  have f2_c := keep_cell hd2 (Nat.le_refl _) cx0
  go_wp2_with fail
  clear hHeld
  have hHeld : (fun w' : World => w'.cell? ⟨w.heap.size, 0, none⟩ = some (.int .i64 m) ∧ w'.cell? ⟨w.heap.size, 1, none⟩ = some (.slice (some ⟨bt, ft, none⟩) n c) ∧ w'.cell? ⟨bt, ft + 1, none⟩ = some (.slice o1 (n - 1) c1)) wd2 := by go_keep
  refine hK.out _ _ (fun _ => hHeld) ?_
  clear hK K
  try simp only [List.getElem_toArray, List.getElem_cons_zero, List.getElem_cons_succ, Act.put, List.setIfInBounds_toArray, List.set_cons_zero, List.set_cons_succ]
  refine wpAnyK_oneL (i := 14) rfl (by kernel_rfl) (fun K hK => ?_)
  go_simp
  (try go_wp2_with fail)
  refine hK.out _ _ (fun _ => hHeld) ?_
  clear hK K
  try simp only [List.getElem_toArray, List.getElem_cons_zero, List.getElem_cons_succ, Act.put, List.setIfInBounds_toArray, List.set_cons_zero, List.set_cons_succ]
  refine wpAnyK_done (by kernel_rfl) ?_ _
  go_wp2_with fail
  go_wp2
  go_ret
  exact ⟨_, rfl, hod2.mono (by omega), B0.trans (hd2.mono B0s)⟩

set_option maxHeartbeats 2000000 in
set_option maxRecDepth 100000 in
theorem logarithm_c (m : Int) (n : Nat) (v : Value) (t : List (List Int)) (w : World) (hv : RdT w v t) (h1 : 2 ≤ n) (hn : n ≤ 1000) (hm : 2 ≤ m) (hm' : m ≤ 10000) (ht : PlaT m n t) (h10 : atT t 1 0 = 1) :
    Calls Try.prog 72 #[.agg #[.int .i64 m, v]] w fun e w' => SVEnd w w' m (logL m t) e := by
  obtain ⟨o, c, rfl, hmt, -⟩ := id hv
  have hv' : RdT w (.slice o n c) t := by rw [ht.1] at hv; exact hv
  have hl := ht.1
  rw [ht.1] at hmt ⊢
  have hml := hmt.1
  have HT := Lib.hid ht
  unfold maxLen at hmt
  by_cases h2 : n = 2
  · subst h2
    rw [← logL_2 hm hl h10]
    clear hl h10 ht hv
    go_enter Try.func72, Try.ntmps72
    go_wp2_with fail
    (have X0 := ((RB2.mk1 w  (.int .i64 m) (.slice o 2 c) 32).1).below (w' := ((w.alloc (.cells #[.int .i64 m, .slice o 2 c] 32)).alloc (.cells #[.int .i64 0, .slice none 0 0] 34))) (by (repeat (first | exact Below.refl _ _ | (refine Below.setCell ?_ (by first | (simp; done) | (simp; omega) | omega) _) | (refine Below.alloc ?_ (by first | (simp; done) | (simp; omega) | omega) _) | (refine below_drewN ?_ _) | (refine Below.drew ?_)))) (Nat.le_refl _); have R0 := ((RB2.mk2 w (.cells #[.int .i64 m, .slice o 2 c] 32) (.int .i64 0) (.slice none 0 0) 34)).below (w' := ((w.alloc (.cells #[.int .i64 m, .slice o 2 c] 32)).alloc (.cells #[.int .i64 0, .slice none 0 0] 34))) (by (repeat (first | exact Below.refl _ _ | (refine Below.setCell ?_ (by first | (simp; done) | (simp; omega) | omega) _) | (refine Below.alloc ?_ (by first | (simp; done) | (simp; omega) | omega) _) | (refine below_drewN ?_ _) | (refine Below.drew ?_)))) (Nat.le_refl _); have B0 : Below w.heap.size w ((w.alloc (.cells #[.int .i64 m, .slice o 2 c] 32)).alloc (.cells #[.int .i64 0, .slice none 0 0] 34)) := (by (repeat (first | exact Below.refl _ _ | (refine Below.setCell ?_ (by first | (simp; done) | (simp; omega) | omega) _) | (refine Below.alloc ?_ (by first | (simp; done) | (simp; omega) | omega) _) | (refine below_drewN ?_ _) | (refine Below.drew ?_)))); generalize (w.alloc (.cells #[.int .i64 m, .slice o 2 c] 32)).alloc (.cells #[.int .i64 0, .slice none 0 0] 34) = w0 at X0 R0 B0  ⊢)
    obtain ⟨x0, x1⟩ := id X0
    go_wp2_with fail
    refine (degreeP_c m o 2 c _ hml).mono ?_
    rintro e w1 ⟨rfl, hb⟩
    clear x0 x1
    (have X1 := X0.below hb (Nat.le_refl _); have R1 := R0.below hb (Nat.le_refl _); have B1 := B0.trans (hb.mono B0.size))
    obtain ⟨x0, x1⟩ := id X1
    go_wp2_with fail
    refine (variable_c m 1 2 _ (by omega) (by omega) (by omega)).mono ?_
    rintro e w2 ⟨vR, rfl, how, hb⟩
    clear x0 x1
    obtain ⟨oV, cV, rfl⟩ := how.shapeN (n := 2) (varL_len _)
    have hz := R1.1.lt
    have hB := B1.size
    (have R2 := R1.below hb (Nat.le_refl _); have B2 := B1.trans (hb.mono B1.size))
    obtain ⟨⟨r0, r1⟩, rf⟩ := id R2
    go_wp2
    refine bodyPost_ret (v := .agg #[.int .i64 m, .slice oV 2 cV]) (by simp [results, Try.results72, go_sem, r0, r1]) rfl ⟨_, rfl, ?_, ?_⟩
    · exact ((how.low hz _).low hz _).mono hB
    · (repeat (first | exact Below.refl _ _ | (refine Below.setCell ?_ (by first | (simp; done) | (simp; omega) | omega) _) | (refine Below.alloc ?_ (by first | (simp; done) | (simp; omega) | omega) _) | (refine below_drewN ?_ _) | (refine Below.drew ?_) | (refine Below.trans ?_ (Below.mono B2 (by first | (simp; done) | (simp; omega) | omega)))))
  · have hc : ((n : Int) - 1 == 1) = false := by simp; omega
    have hDl := Lib.hid (show (difL m t).length = n - 1 by rw [difL_len (by omega), hl])
    have hLl := Lib.hid (show (logL m t).length = n by rw [logL_len (by omega), hl])
    have hDr := Lib.hid (difL_range (m := m) (show 0 < m by omega) t)
    have hLg := Lib.hid (show intL m (difL m t) = logL m t from rfl)
    clear hl h10 ht hv h2
    go_enter Try.func72, Try.ntmps72
    go_wp2_with fail
    (have X0 := ((RB2.mk1 w  (.int .i64 m) (.slice o n c) 32).1).below (w' := ((w.alloc (.cells #[.int .i64 m, .slice o n c] 32)).alloc (.cells #[.int .i64 0, .slice none 0 0] 34))) (by (repeat (first | exact Below.refl _ _ | (refine Below.setCell ?_ (by first | (simp; done) | (simp; omega) | omega) _) | (refine Below.alloc ?_ (by first | (simp; done) | (simp; omega) | omega) _) | (refine below_drewN ?_ _) | (refine Below.drew ?_)))) (Nat.le_refl _); have R0 := ((RB2.mk2 w (.cells #[.int .i64 m, .slice o n c] 32) (.int .i64 0) (.slice none 0 0) 34)).below (w' := ((w.alloc (.cells #[.int .i64 m, .slice o n c] 32)).alloc (.cells #[.int .i64 0, .slice none 0 0] 34))) (by (repeat (first | exact Below.refl _ _ | (refine Below.setCell ?_ (by first | (simp; done) | (simp; omega) | omega) _) | (refine Below.alloc ?_ (by first | (simp; done) | (simp; omega) | omega) _) | (refine below_drewN ?_ _) | (refine Below.drew ?_)))) (Nat.le_refl _); have B0 : Below w.heap.size w ((w.alloc (.cells #[.int .i64 m, .slice o n c] 32)).alloc (.cells #[.int .i64 0, .slice none 0 0] 34)) := (by (repeat (first | exact Below.refl _ _ | (refine Below.setCell ?_ (by first | (simp; done) | (simp; omega) | omega) _) | (refine Below.alloc ?_ (by first | (simp; done) | (simp; omega) | omega) _) | (refine below_drewN ?_ _) | (refine Below.drew ?_)))); have hv'0 := hv'.below (w' := ((w.alloc (.cells #[.int .i64 m, .slice o n c] 32)).alloc (.cells #[.int .i64 0, .slice none 0 0] 34))) (by (repeat (first | exact Below.refl _ _ | (refine Below.setCell ?_ (by first | (simp; done) | (simp; omega) | omega) _) | (refine Below.alloc ?_ (by first | (simp; done) | (simp; omega) | omega) _) | (refine below_drewN ?_ _) | (refine Below.drew ?_)))) (Nat.le_refl _); generalize (w.alloc (.cells #[.int .i64 m, .slice o n c] 32)).alloc (.cells #[.int .i64 0, .slice none 0 0] 34) = w0 at X0 R0 B0 hv'0 ⊢)
    obtain ⟨x0, x1⟩ := id X0
    go_wp2_with fail
    refine (degreeP_c m o n c _ hml).mono ?_
    rintro e w1 ⟨rfl, hb⟩
    clear x0 x1
    (have X1 := X0.below hb (Nat.le_refl _); have R1 := R0.below hb (Nat.le_refl _); have hv'1 := hv'0.below hb (Nat.le_refl _); have B1 := B0.trans (hb.mono B0.size))
    obtain ⟨x0, x1⟩ := id X1
    go_wp2_with fail
    refine (differential_c m n _ t _ hv'1 h1 hn hm hm' HT.out).mono ?_
    rintro e w2 ⟨vD, rfl, hod, hb⟩
    clear x0 x1
    obtain ⟨oD, cD, rfl⟩ := hod.shapeN (n := n - 1) hDl.out
    have hB1 := B1.size
    (have X2 := X1.below hb (Nat.le_refl _); have R2 := R1.below hb (Nat.le_refl _); have B2 := B1.trans (hb.mono B1.size))
    go_wp2_with fail
    refine (integrated_c m _ (difL m t) _ hod.rd (by rw [hDl.out]; omega) (by rw [hDl.out]; omega) hm hm' hDr.out).mono ?_
    rintro e w3 ⟨vR, rfl, how, hb⟩
    rw [hLg.out] at how
    obtain ⟨oV, cV, rfl⟩ := how.shapeN (n := n) hLl.out
    have hz := R2.1.lt
    have hB := B2.size
    (have R3 := R2.below hb (Nat.le_refl _); have B3 := B2.trans (hb.mono B2.size))
    obtain ⟨⟨r0, r1⟩, rf⟩ := id R3
    go_wp2
    refine bodyPost_ret (v := .agg #[.int .i64 m, .slice oV n cV]) (by simp [results, Try.results72, go_sem, r0, r1]) rfl ⟨_, rfl, ?_, ?_⟩
    · exact ((how.low hz _).low hz _).mono hB
    · (repeat (first | exact Below.refl _ _ | (refine Below.setCell ?_ (by first | (simp; done) | (simp; omega) | omega) _) | (refine Below.alloc ?_ (by first | (simp; done) | (simp; omega) | omega) _) | (refine below_drewN ?_ _) | (refine Below.drew ?_) | (refine Below.trans ?_ (Below.mono B3 (by first | (simp; done) | (simp; omega) | omega)))))


end Go.Proofs.Ytdnkadlondediaa
