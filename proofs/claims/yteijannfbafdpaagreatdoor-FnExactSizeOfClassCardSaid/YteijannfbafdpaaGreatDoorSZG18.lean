/- Lemmas. -/
import Derived.Test.YteijannfbafdpaaGreatDoorSZG7
import Derived.Test.YteijannfbafdpaaGreatDoorSZG11
/- Cocycles of degree 2 to 10 are multiples of Lazard's: integer combinations (printed by gencoc.py). No program stands here. -/
set_option linter.unusedSimpArgs false
set_option linter.unusedVariables false
namespace Go.Proofs.YteijannfbafdpaaGreatDoor

def lam (n : Nat) : Int := at0 [0, 0, 2, 3, 2, 5, 1, 7, 2, 3, 1] n
def laz (n i : Nat) : Int := if 1 ≤ i ∧ i < n then bin n i / lam n else 0
theorem dv2 {m a b : Int} (k : Int) (h : m ∣ a) (t : m ∣ b) : m ∣ k * a + b := Int.dvd_add (Int.dvd_mul_of_dvd_right h) t
structure Coc (m : Int) (n : Nat) (d : Nat → Int) : Prop where
  sy : ∀ i, 1 ≤ i → i < n → m ∣ d i - d (n - i)
  as : ∀ p q k, 1 ≤ p → 1 ≤ q → 1 ≤ k → p + q + k = n → m ∣ bin (p + q) p * d (p + q) - bin (q + k) q * d p

theorem coc_2 {m : Int} {d : Nat → Int} (H : Coc m 2 d) : ∃ x, ∀ i, 1 ≤ i → i < 2 → m ∣ d i - x * laz 2 i := by
  refine ⟨(1) * d 1, fun i h1 h2 => ?_⟩
  obtain rfl : i = 1 := by omega
  · show m ∣ d 1 - ((1) * d 1) * (1)
    rw [show d 1 - ((1) * d 1) * (1) = 0 by omega]; exact Int.dvd_zero m
theorem coc_3 {m : Int} {d : Nat → Int} (H : Coc m 3 d) : ∃ x, ∀ i, 1 ≤ i → i < 3 → m ∣ d i - x * laz 3 i := by
  refine ⟨(1) * d 1, fun i h1 h2 => ?_⟩
  obtain rfl | rfl : i = 1 ∨ i = 2 := by omega
  · show m ∣ d 1 - ((1) * d 1) * (1)
    rw [show d 1 - ((1) * d 1) * (1) = 0 by omega]; exact Int.dvd_zero m
  · show m ∣ d 2 - ((1) * d 1) * (1)
    have h0 : m ∣ d 1 - d 2 := H.sy 1 (by omega) (by omega)
    have h := (dv2 (-1) h0 (Int.dvd_zero m))
    rwa [show (-1) * (d 1 - d 2) + (0) = d 2 - ((1) * d 1) * (1) by omega] at h
theorem coc_4 {m : Int} {d : Nat → Int} (H : Coc m 4 d) : ∃ x, ∀ i, 1 ≤ i → i < 4 → m ∣ d i - x * laz 4 i := by
  refine ⟨(-1) * d 1 + (1) * d 2, fun i h1 h2 => ?_⟩
  obtain rfl | rfl | rfl : i = 1 ∨ i = 2 ∨ i = 3 := by omega
  · show m ∣ d 1 - ((-1) * d 1 + (1) * d 2) * (2)
    have h0 : m ∣ 2 * d 2 - 3 * d 1 := H.as 1 1 2 (by omega) (by omega) (by omega) (by omega)
    have h := (dv2 (-1) h0 (Int.dvd_zero m))
    rwa [show (-1) * (2 * d 2 - 3 * d 1) + (0) = d 1 - ((-1) * d 1 + (1) * d 2) * (2) by omega] at h
  · show m ∣ d 2 - ((-1) * d 1 + (1) * d 2) * (3)
    have h0 : m ∣ 2 * d 2 - 3 * d 1 := H.as 1 1 2 (by omega) (by omega) (by omega) (by omega)
    have h := (dv2 (-1) h0 (Int.dvd_zero m))
    rwa [show (-1) * (2 * d 2 - 3 * d 1) + (0) = d 2 - ((-1) * d 1 + (1) * d 2) * (3) by omega] at h
  · show m ∣ d 3 - ((-1) * d 1 + (1) * d 2) * (2)
    have h0 : m ∣ d 1 - d 3 := H.sy 1 (by omega) (by omega)
    have h1 : m ∣ 2 * d 2 - 3 * d 1 := H.as 1 1 2 (by omega) (by omega) (by omega) (by omega)
    have h := (dv2 (-1) h0 (dv2 (-1) h1 (Int.dvd_zero m)))
    rwa [show (-1) * (d 1 - d 3) + ((-1) * (2 * d 2 - 3 * d 1) + (0)) = d 3 - ((-1) * d 1 + (1) * d 2) * (2) by omega] at h
theorem coc_5 {m : Int} {d : Nat → Int} (H : Coc m 5 d) : ∃ x, ∀ i, 1 ≤ i → i < 5 → m ∣ d i - x * laz 5 i := by
  refine ⟨(1) * d 1, fun i h1 h2 => ?_⟩
  obtain rfl | rfl | rfl | rfl : i = 1 ∨ i = 2 ∨ i = 3 ∨ i = 4 := by omega
  · show m ∣ d 1 - ((1) * d 1) * (1)
    rw [show d 1 - ((1) * d 1) * (1) = 0 by omega]; exact Int.dvd_zero m
  · show m ∣ d 2 - ((1) * d 1) * (2)
    have h0 : m ∣ d 2 - d 3 := H.sy 2 (by omega) (by omega)
    have h1 : m ∣ 2 * d 2 - 4 * d 1 := H.as 1 1 3 (by omega) (by omega) (by omega) (by omega)
    have h2 : m ∣ 3 * d 3 - 6 * d 1 := H.as 1 2 2 (by omega) (by omega) (by omega) (by omega)
    have h := (dv2 (3) h0 (dv2 (-1) h1 (dv2 (1) h2 (Int.dvd_zero m))))
    rwa [show (3) * (d 2 - d 3) + ((-1) * (2 * d 2 - 4 * d 1) + ((1) * (3 * d 3 - 6 * d 1) + (0))) = d 2 - ((1) * d 1) * (2) by omega] at h
  · show m ∣ d 3 - ((1) * d 1) * (2)
    have h0 : m ∣ d 2 - d 3 := H.sy 2 (by omega) (by omega)
    have h1 : m ∣ 2 * d 2 - 4 * d 1 := H.as 1 1 3 (by omega) (by omega) (by omega) (by omega)
    have h2 : m ∣ 3 * d 3 - 6 * d 1 := H.as 1 2 2 (by omega) (by omega) (by omega) (by omega)
    have h := (dv2 (2) h0 (dv2 (-1) h1 (dv2 (1) h2 (Int.dvd_zero m))))
    rwa [show (2) * (d 2 - d 3) + ((-1) * (2 * d 2 - 4 * d 1) + ((1) * (3 * d 3 - 6 * d 1) + (0))) = d 3 - ((1) * d 1) * (2) by omega] at h
  · show m ∣ d 4 - ((1) * d 1) * (1)
    have h0 : m ∣ d 1 - d 4 := H.sy 1 (by omega) (by omega)
    have h := (dv2 (-1) h0 (Int.dvd_zero m))
    rwa [show (-1) * (d 1 - d 4) + (0) = d 4 - ((1) * d 1) * (1) by omega] at h
theorem coc_6 {m : Int} {d : Nat → Int} (H : Coc m 6 d) : ∃ x, ∀ i, 1 ≤ i → i < 6 → m ∣ d i - x * laz 6 i := by
  refine ⟨(-14) * d 1 + (7) * d 2 + (-1) * d 3, fun i h1 h2 => ?_⟩
  obtain rfl | rfl | rfl | rfl | rfl : i = 1 ∨ i = 2 ∨ i = 3 ∨ i = 4 ∨ i = 5 := by omega
  · show m ∣ d 1 - ((-14) * d 1 + (7) * d 2 + (-1) * d 3) * (6)
    have h0 : m ∣ 2 * d 2 - 5 * d 1 := H.as 1 1 4 (by omega) (by omega) (by omega) (by omega)
    have h1 : m ∣ 3 * d 3 - 10 * d 1 := H.as 1 2 3 (by omega) (by omega) (by omega) (by omega)
    have h := (dv2 (-21) h0 (dv2 (2) h1 (Int.dvd_zero m)))
    rwa [show (-21) * (2 * d 2 - 5 * d 1) + ((2) * (3 * d 3 - 10 * d 1) + (0)) = d 1 - ((-14) * d 1 + (7) * d 2 + (-1) * d 3) * (6) by omega] at h
  · show m ∣ d 2 - ((-14) * d 1 + (7) * d 2 + (-1) * d 3) * (15)
    have h0 : m ∣ 2 * d 2 - 5 * d 1 := H.as 1 1 4 (by omega) (by omega) (by omega) (by omega)
    have h1 : m ∣ 3 * d 3 - 10 * d 1 := H.as 1 2 3 (by omega) (by omega) (by omega) (by omega)
    have h := (dv2 (-52) h0 (dv2 (5) h1 (Int.dvd_zero m)))
    rwa [show (-52) * (2 * d 2 - 5 * d 1) + ((5) * (3 * d 3 - 10 * d 1) + (0)) = d 2 - ((-14) * d 1 + (7) * d 2 + (-1) * d 3) * (15) by omega] at h
  · show m ∣ d 3 - ((-14) * d 1 + (7) * d 2 + (-1) * d 3) * (20)
    have h0 : m ∣ 2 * d 2 - 5 * d 1 := H.as 1 1 4 (by omega) (by omega) (by omega) (by omega)
    have h1 : m ∣ 3 * d 3 - 10 * d 1 := H.as 1 2 3 (by omega) (by omega) (by omega) (by omega)
    have h := (dv2 (-70) h0 (dv2 (7) h1 (Int.dvd_zero m)))
    rwa [show (-70) * (2 * d 2 - 5 * d 1) + ((7) * (3 * d 3 - 10 * d 1) + (0)) = d 3 - ((-14) * d 1 + (7) * d 2 + (-1) * d 3) * (20) by omega] at h
  · show m ∣ d 4 - ((-14) * d 1 + (7) * d 2 + (-1) * d 3) * (15)
    have h0 : m ∣ d 2 - d 4 := H.sy 2 (by omega) (by omega)
    have h1 : m ∣ 2 * d 2 - 5 * d 1 := H.as 1 1 4 (by omega) (by omega) (by omega) (by omega)
    have h2 : m ∣ 3 * d 3 - 10 * d 1 := H.as 1 2 3 (by omega) (by omega) (by omega) (by omega)
    have h := (dv2 (-1) h0 (dv2 (-52) h1 (dv2 (5) h2 (Int.dvd_zero m))))
    rwa [show (-1) * (d 2 - d 4) + ((-52) * (2 * d 2 - 5 * d 1) + ((5) * (3 * d 3 - 10 * d 1) + (0))) = d 4 - ((-14) * d 1 + (7) * d 2 + (-1) * d 3) * (15) by omega] at h
  · show m ∣ d 5 - ((-14) * d 1 + (7) * d 2 + (-1) * d 3) * (6)
    have h0 : m ∣ d 1 - d 5 := H.sy 1 (by omega) (by omega)
    have h1 : m ∣ 2 * d 2 - 5 * d 1 := H.as 1 1 4 (by omega) (by omega) (by omega) (by omega)
    have h2 : m ∣ 3 * d 3 - 10 * d 1 := H.as 1 2 3 (by omega) (by omega) (by omega) (by omega)
    have h := (dv2 (-1) h0 (dv2 (-21) h1 (dv2 (2) h2 (Int.dvd_zero m))))
    rwa [show (-1) * (d 1 - d 5) + ((-21) * (2 * d 2 - 5 * d 1) + ((2) * (3 * d 3 - 10 * d 1) + (0))) = d 5 - ((-14) * d 1 + (7) * d 2 + (-1) * d 3) * (6) by omega] at h
theorem coc_7 {m : Int} {d : Nat → Int} (H : Coc m 7 d) : ∃ x, ∀ i, 1 ≤ i → i < 7 → m ∣ d i - x * laz 7 i := by
  refine ⟨(1) * d 1, fun i h1 h2 => ?_⟩
  obtain rfl | rfl | rfl | rfl | rfl | rfl : i = 1 ∨ i = 2 ∨ i = 3 ∨ i = 4 ∨ i = 5 ∨ i = 6 := by omega
  · show m ∣ d 1 - ((1) * d 1) * (1)
    rw [show d 1 - ((1) * d 1) * (1) = 0 by omega]; exact Int.dvd_zero m
  · show m ∣ d 2 - ((1) * d 1) * (3)
    have h0 : m ∣ d 2 - d 5 := H.sy 2 (by omega) (by omega)
    have h1 : m ∣ 2 * d 2 - 6 * d 1 := H.as 1 1 5 (by omega) (by omega) (by omega) (by omega)
    have h2 : m ∣ 5 * d 5 - 15 * d 1 := H.as 1 4 2 (by omega) (by omega) (by omega) (by omega)
    have h := (dv2 (5) h0 (dv2 (-2) h1 (dv2 (1) h2 (Int.dvd_zero m))))
    rwa [show (5) * (d 2 - d 5) + ((-2) * (2 * d 2 - 6 * d 1) + ((1) * (5 * d 5 - 15 * d 1) + (0))) = d 2 - ((1) * d 1) * (3) by omega] at h
  · show m ∣ d 3 - ((1) * d 1) * (5)
    have h0 : m ∣ d 3 - d 4 := H.sy 3 (by omega) (by omega)
    have h1 : m ∣ 3 * d 3 - 15 * d 1 := H.as 1 2 4 (by omega) (by omega) (by omega) (by omega)
    have h2 : m ∣ 4 * d 4 - 20 * d 1 := H.as 1 3 3 (by omega) (by omega) (by omega) (by omega)
    have h := (dv2 (4) h0 (dv2 (-1) h1 (dv2 (1) h2 (Int.dvd_zero m))))
    rwa [show (4) * (d 3 - d 4) + ((-1) * (3 * d 3 - 15 * d 1) + ((1) * (4 * d 4 - 20 * d 1) + (0))) = d 3 - ((1) * d 1) * (5) by omega] at h
  · show m ∣ d 4 - ((1) * d 1) * (5)
    have h0 : m ∣ d 3 - d 4 := H.sy 3 (by omega) (by omega)
    have h1 : m ∣ 3 * d 3 - 15 * d 1 := H.as 1 2 4 (by omega) (by omega) (by omega) (by omega)
    have h2 : m ∣ 4 * d 4 - 20 * d 1 := H.as 1 3 3 (by omega) (by omega) (by omega) (by omega)
    have h := (dv2 (3) h0 (dv2 (-1) h1 (dv2 (1) h2 (Int.dvd_zero m))))
    rwa [show (3) * (d 3 - d 4) + ((-1) * (3 * d 3 - 15 * d 1) + ((1) * (4 * d 4 - 20 * d 1) + (0))) = d 4 - ((1) * d 1) * (5) by omega] at h
  · show m ∣ d 5 - ((1) * d 1) * (3)
    have h0 : m ∣ d 2 - d 5 := H.sy 2 (by omega) (by omega)
    have h1 : m ∣ 2 * d 2 - 6 * d 1 := H.as 1 1 5 (by omega) (by omega) (by omega) (by omega)
    have h2 : m ∣ 5 * d 5 - 15 * d 1 := H.as 1 4 2 (by omega) (by omega) (by omega) (by omega)
    have h := (dv2 (4) h0 (dv2 (-2) h1 (dv2 (1) h2 (Int.dvd_zero m))))
    rwa [show (4) * (d 2 - d 5) + ((-2) * (2 * d 2 - 6 * d 1) + ((1) * (5 * d 5 - 15 * d 1) + (0))) = d 5 - ((1) * d 1) * (3) by omega] at h
  · show m ∣ d 6 - ((1) * d 1) * (1)
    have h0 : m ∣ d 1 - d 6 := H.sy 1 (by omega) (by omega)
    have h := (dv2 (-1) h0 (Int.dvd_zero m))
    rwa [show (-1) * (d 1 - d 6) + (0) = d 6 - ((1) * d 1) * (1) by omega] at h
theorem coc_8 {m : Int} {d : Nat → Int} (H : Coc m 8 d) : ∃ x, ∀ i, 1 ≤ i → i < 8 → m ∣ d i - x * laz 8 i := by
  refine ⟨(51) * d 1 + (-17) * d 2 + (1) * d 4, fun i h1 h2 => ?_⟩
  obtain rfl | rfl | rfl | rfl | rfl | rfl | rfl : i = 1 ∨ i = 2 ∨ i = 3 ∨ i = 4 ∨ i = 5 ∨ i = 6 ∨ i = 7 := by omega
  · show m ∣ d 1 - ((51) * d 1 + (-17) * d 2 + (1) * d 4) * (4)
    have h0 : m ∣ 2 * d 2 - 7 * d 1 := H.as 1 1 6 (by omega) (by omega) (by omega) (by omega)
    have h1 : m ∣ 4 * d 4 - 35 * d 1 := H.as 1 3 4 (by omega) (by omega) (by omega) (by omega)
    have h := (dv2 (34) h0 (dv2 (-1) h1 (Int.dvd_zero m)))
    rwa [show (34) * (2 * d 2 - 7 * d 1) + ((-1) * (4 * d 4 - 35 * d 1) + (0)) = d 1 - ((51) * d 1 + (-17) * d 2 + (1) * d 4) * (4) by omega] at h
  · show m ∣ d 2 - ((51) * d 1 + (-17) * d 2 + (1) * d 4) * (14)
    have h0 : m ∣ 2 * d 2 - 7 * d 1 := H.as 1 1 6 (by omega) (by omega) (by omega) (by omega)
    have h1 : m ∣ 4 * d 4 - 35 * d 1 := H.as 1 3 4 (by omega) (by omega) (by omega) (by omega)
    have h2 : m ∣ 6 * d 4 - 15 * d 2 := H.as 2 2 4 (by omega) (by omega) (by omega) (by omega)
    have h := (dv2 (67) h0 (dv2 (7) h1 (dv2 (-7) h2 (Int.dvd_zero m))))
    rwa [show (67) * (2 * d 2 - 7 * d 1) + ((7) * (4 * d 4 - 35 * d 1) + ((-7) * (6 * d 4 - 15 * d 2) + (0))) = d 2 - ((51) * d 1 + (-17) * d 2 + (1) * d 4) * (14) by omega] at h
  · show m ∣ d 3 - ((51) * d 1 + (-17) * d 2 + (1) * d 4) * (28)
    have h0 : m ∣ d 3 - d 5 := H.sy 3 (by omega) (by omega)
    have h1 : m ∣ 2 * d 2 - 7 * d 1 := H.as 1 1 6 (by omega) (by omega) (by omega) (by omega)
    have h2 : m ∣ 3 * d 3 - 21 * d 1 := H.as 1 2 5 (by omega) (by omega) (by omega) (by omega)
    have h3 : m ∣ 4 * d 4 - 35 * d 1 := H.as 1 3 4 (by omega) (by omega) (by omega) (by omega)
    have h4 : m ∣ 5 * d 5 - 35 * d 1 := H.as 1 4 3 (by omega) (by omega) (by omega) (by omega)
    have h := (dv2 (205) h0 (dv2 (238) h1 (dv2 (-68) h2 (dv2 (-7) h3 (dv2 (41) h4 (Int.dvd_zero m))))))
    rwa [show (205) * (d 3 - d 5) + ((238) * (2 * d 2 - 7 * d 1) + ((-68) * (3 * d 3 - 21 * d 1) + ((-7) * (4 * d 4 - 35 * d 1) + ((41) * (5 * d 5 - 35 * d 1) + (0))))) = d 3 - ((51) * d 1 + (-17) * d 2 + (1) * d 4) * (28) by omega] at h
  · show m ∣ d 4 - ((51) * d 1 + (-17) * d 2 + (1) * d 4) * (35)
    have h0 : m ∣ 2 * d 2 - 7 * d 1 := H.as 1 1 6 (by omega) (by omega) (by omega) (by omega)
    have h1 : m ∣ 4 * d 4 - 35 * d 1 := H.as 1 3 4 (by omega) (by omega) (by omega) (by omega)
    have h2 : m ∣ 6 * d 4 - 15 * d 2 := H.as 2 2 4 (by omega) (by omega) (by omega) (by omega)
    have h := (dv2 (170) h0 (dv2 (17) h1 (dv2 (-17) h2 (Int.dvd_zero m))))
    rwa [show (170) * (2 * d 2 - 7 * d 1) + ((17) * (4 * d 4 - 35 * d 1) + ((-17) * (6 * d 4 - 15 * d 2) + (0))) = d 4 - ((51) * d 1 + (-17) * d 2 + (1) * d 4) * (35) by omega] at h
  · show m ∣ d 5 - ((51) * d 1 + (-17) * d 2 + (1) * d 4) * (28)
    have h0 : m ∣ d 3 - d 5 := H.sy 3 (by omega) (by omega)
    have h1 : m ∣ 2 * d 2 - 7 * d 1 := H.as 1 1 6 (by omega) (by omega) (by omega) (by omega)
    have h2 : m ∣ 3 * d 3 - 21 * d 1 := H.as 1 2 5 (by omega) (by omega) (by omega) (by omega)
    have h3 : m ∣ 4 * d 4 - 35 * d 1 := H.as 1 3 4 (by omega) (by omega) (by omega) (by omega)
    have h4 : m ∣ 5 * d 5 - 35 * d 1 := H.as 1 4 3 (by omega) (by omega) (by omega) (by omega)
    have h := (dv2 (204) h0 (dv2 (238) h1 (dv2 (-68) h2 (dv2 (-7) h3 (dv2 (41) h4 (Int.dvd_zero m))))))
    rwa [show (204) * (d 3 - d 5) + ((238) * (2 * d 2 - 7 * d 1) + ((-68) * (3 * d 3 - 21 * d 1) + ((-7) * (4 * d 4 - 35 * d 1) + ((41) * (5 * d 5 - 35 * d 1) + (0))))) = d 5 - ((51) * d 1 + (-17) * d 2 + (1) * d 4) * (28) by omega] at h
  · show m ∣ d 6 - ((51) * d 1 + (-17) * d 2 + (1) * d 4) * (14)
    have h0 : m ∣ d 2 - d 6 := H.sy 2 (by omega) (by omega)
    have h1 : m ∣ 2 * d 2 - 7 * d 1 := H.as 1 1 6 (by omega) (by omega) (by omega) (by omega)
    have h2 : m ∣ 4 * d 4 - 35 * d 1 := H.as 1 3 4 (by omega) (by omega) (by omega) (by omega)
    have h3 : m ∣ 6 * d 4 - 15 * d 2 := H.as 2 2 4 (by omega) (by omega) (by omega) (by omega)
    have h := (dv2 (-1) h0 (dv2 (67) h1 (dv2 (7) h2 (dv2 (-7) h3 (Int.dvd_zero m)))))
    rwa [show (-1) * (d 2 - d 6) + ((67) * (2 * d 2 - 7 * d 1) + ((7) * (4 * d 4 - 35 * d 1) + ((-7) * (6 * d 4 - 15 * d 2) + (0)))) = d 6 - ((51) * d 1 + (-17) * d 2 + (1) * d 4) * (14) by omega] at h
  · show m ∣ d 7 - ((51) * d 1 + (-17) * d 2 + (1) * d 4) * (4)
    have h0 : m ∣ d 1 - d 7 := H.sy 1 (by omega) (by omega)
    have h1 : m ∣ 2 * d 2 - 7 * d 1 := H.as 1 1 6 (by omega) (by omega) (by omega) (by omega)
    have h2 : m ∣ 4 * d 4 - 35 * d 1 := H.as 1 3 4 (by omega) (by omega) (by omega) (by omega)
    have h := (dv2 (-1) h0 (dv2 (34) h1 (dv2 (-1) h2 (Int.dvd_zero m))))
    rwa [show (-1) * (d 1 - d 7) + ((34) * (2 * d 2 - 7 * d 1) + ((-1) * (4 * d 4 - 35 * d 1) + (0))) = d 7 - ((51) * d 1 + (-17) * d 2 + (1) * d 4) * (4) by omega] at h
theorem coc_9 {m : Int} {d : Nat → Int} (H : Coc m 9 d) : ∃ x, ∀ i, 1 ≤ i → i < 9 → m ∣ d i - x * laz 9 i := by
  refine ⟨(-9) * d 1 + (1) * d 3, fun i h1 h2 => ?_⟩
  obtain rfl | rfl | rfl | rfl | rfl | rfl | rfl | rfl : i = 1 ∨ i = 2 ∨ i = 3 ∨ i = 4 ∨ i = 5 ∨ i = 6 ∨ i = 7 ∨ i = 8 := by omega
  · show m ∣ d 1 - ((-9) * d 1 + (1) * d 3) * (3)
    have h0 : m ∣ 3 * d 3 - 28 * d 1 := H.as 1 2 6 (by omega) (by omega) (by omega) (by omega)
    have h := (dv2 (-1) h0 (Int.dvd_zero m))
    rwa [show (-1) * (3 * d 3 - 28 * d 1) + (0) = d 1 - ((-9) * d 1 + (1) * d 3) * (3) by omega] at h
  · show m ∣ d 2 - ((-9) * d 1 + (1) * d 3) * (12)
    have h0 : m ∣ d 2 - d 7 := H.sy 2 (by omega) (by omega)
    have h1 : m ∣ 2 * d 2 - 8 * d 1 := H.as 1 1 7 (by omega) (by omega) (by omega) (by omega)
    have h2 : m ∣ 3 * d 3 - 28 * d 1 := H.as 1 2 6 (by omega) (by omega) (by omega) (by omega)
    have h3 : m ∣ 7 * d 7 - 28 * d 1 := H.as 1 6 2 (by omega) (by omega) (by omega) (by omega)
    have h := (dv2 (-161) h0 (dv2 (81) h1 (dv2 (-4) h2 (dv2 (-23) h3 (Int.dvd_zero m)))))
    rwa [show (-161) * (d 2 - d 7) + ((81) * (2 * d 2 - 8 * d 1) + ((-4) * (3 * d 3 - 28 * d 1) + ((-23) * (7 * d 7 - 28 * d 1) + (0)))) = d 2 - ((-9) * d 1 + (1) * d 3) * (12) by omega] at h
  · show m ∣ d 3 - ((-9) * d 1 + (1) * d 3) * (28)
    have h0 : m ∣ 3 * d 3 - 28 * d 1 := H.as 1 2 6 (by omega) (by omega) (by omega) (by omega)
    have h := (dv2 (-9) h0 (Int.dvd_zero m))
    rwa [show (-9) * (3 * d 3 - 28 * d 1) + (0) = d 3 - ((-9) * d 1 + (1) * d 3) * (28) by omega] at h
  · show m ∣ d 4 - ((-9) * d 1 + (1) * d 3) * (42)
    have h0 : m ∣ d 4 - d 5 := H.sy 4 (by omega) (by omega)
    have h1 : m ∣ 3 * d 3 - 28 * d 1 := H.as 1 2 6 (by omega) (by omega) (by omega) (by omega)
    have h2 : m ∣ 4 * d 4 - 56 * d 1 := H.as 1 3 5 (by omega) (by omega) (by omega) (by omega)
    have h3 : m ∣ 5 * d 5 - 70 * d 1 := H.as 1 4 4 (by omega) (by omega) (by omega) (by omega)
    have h := (dv2 (-815) h0 (dv2 (-14) h1 (dv2 (204) h2 (dv2 (-163) h3 (Int.dvd_zero m)))))
    rwa [show (-815) * (d 4 - d 5) + ((-14) * (3 * d 3 - 28 * d 1) + ((204) * (4 * d 4 - 56 * d 1) + ((-163) * (5 * d 5 - 70 * d 1) + (0)))) = d 4 - ((-9) * d 1 + (1) * d 3) * (42) by omega] at h
  · show m ∣ d 5 - ((-9) * d 1 + (1) * d 3) * (42)
    have h0 : m ∣ d 4 - d 5 := H.sy 4 (by omega) (by omega)
    have h1 : m ∣ 3 * d 3 - 28 * d 1 := H.as 1 2 6 (by omega) (by omega) (by omega) (by omega)
    have h2 : m ∣ 4 * d 4 - 56 * d 1 := H.as 1 3 5 (by omega) (by omega) (by omega) (by omega)
    have h3 : m ∣ 5 * d 5 - 70 * d 1 := H.as 1 4 4 (by omega) (by omega) (by omega) (by omega)
    have h := (dv2 (-816) h0 (dv2 (-14) h1 (dv2 (204) h2 (dv2 (-163) h3 (Int.dvd_zero m)))))
    rwa [show (-816) * (d 4 - d 5) + ((-14) * (3 * d 3 - 28 * d 1) + ((204) * (4 * d 4 - 56 * d 1) + ((-163) * (5 * d 5 - 70 * d 1) + (0)))) = d 5 - ((-9) * d 1 + (1) * d 3) * (42) by omega] at h
  · show m ∣ d 6 - ((-9) * d 1 + (1) * d 3) * (28)
    have h0 : m ∣ d 3 - d 6 := H.sy 3 (by omega) (by omega)
    have h1 : m ∣ 3 * d 3 - 28 * d 1 := H.as 1 2 6 (by omega) (by omega) (by omega) (by omega)
    have h := (dv2 (-1) h0 (dv2 (-9) h1 (Int.dvd_zero m)))
    rwa [show (-1) * (d 3 - d 6) + ((-9) * (3 * d 3 - 28 * d 1) + (0)) = d 6 - ((-9) * d 1 + (1) * d 3) * (28) by omega] at h
  · show m ∣ d 7 - ((-9) * d 1 + (1) * d 3) * (12)
    have h0 : m ∣ d 2 - d 7 := H.sy 2 (by omega) (by omega)
    have h1 : m ∣ 2 * d 2 - 8 * d 1 := H.as 1 1 7 (by omega) (by omega) (by omega) (by omega)
    have h2 : m ∣ 3 * d 3 - 28 * d 1 := H.as 1 2 6 (by omega) (by omega) (by omega) (by omega)
    have h3 : m ∣ 7 * d 7 - 28 * d 1 := H.as 1 6 2 (by omega) (by omega) (by omega) (by omega)
    have h := (dv2 (-162) h0 (dv2 (81) h1 (dv2 (-4) h2 (dv2 (-23) h3 (Int.dvd_zero m)))))
    rwa [show (-162) * (d 2 - d 7) + ((81) * (2 * d 2 - 8 * d 1) + ((-4) * (3 * d 3 - 28 * d 1) + ((-23) * (7 * d 7 - 28 * d 1) + (0)))) = d 7 - ((-9) * d 1 + (1) * d 3) * (12) by omega] at h
  · show m ∣ d 8 - ((-9) * d 1 + (1) * d 3) * (3)
    have h0 : m ∣ d 1 - d 8 := H.sy 1 (by omega) (by omega)
    have h1 : m ∣ 3 * d 3 - 28 * d 1 := H.as 1 2 6 (by omega) (by omega) (by omega) (by omega)
    have h := (dv2 (-1) h0 (dv2 (-1) h1 (Int.dvd_zero m)))
    rwa [show (-1) * (d 1 - d 8) + ((-1) * (3 * d 3 - 28 * d 1) + (0)) = d 8 - ((-9) * d 1 + (1) * d 3) * (3) by omega] at h
theorem coc_10 {m : Int} {d : Nat → Int} (H : Coc m 10 d) : ∃ x, ∀ i, 1 ≤ i → i < 10 → m ∣ d i - x * laz 10 i := by
  refine ⟨(-404) * d 1 + (101) * d 2 + (-2) * d 5, fun i h1 h2 => ?_⟩
  obtain rfl | rfl | rfl | rfl | rfl | rfl | rfl | rfl | rfl : i = 1 ∨ i = 2 ∨ i = 3 ∨ i = 4 ∨ i = 5 ∨ i = 6 ∨ i = 7 ∨ i = 8 ∨ i = 9 := by omega
  · show m ∣ d 1 - ((-404) * d 1 + (101) * d 2 + (-2) * d 5) * (10)
    have h0 : m ∣ 2 * d 2 - 9 * d 1 := H.as 1 1 8 (by omega) (by omega) (by omega) (by omega)
    have h1 : m ∣ 5 * d 5 - 126 * d 1 := H.as 1 4 5 (by omega) (by omega) (by omega) (by omega)
    have h := (dv2 (-505) h0 (dv2 (4) h1 (Int.dvd_zero m)))
    rwa [show (-505) * (2 * d 2 - 9 * d 1) + ((4) * (5 * d 5 - 126 * d 1) + (0)) = d 1 - ((-404) * d 1 + (101) * d 2 + (-2) * d 5) * (10) by omega] at h
  · show m ∣ d 2 - ((-404) * d 1 + (101) * d 2 + (-2) * d 5) * (45)
    have h0 : m ∣ 2 * d 2 - 9 * d 1 := H.as 1 1 8 (by omega) (by omega) (by omega) (by omega)
    have h1 : m ∣ 5 * d 5 - 126 * d 1 := H.as 1 4 5 (by omega) (by omega) (by omega) (by omega)
    have h := (dv2 (-2272) h0 (dv2 (18) h1 (Int.dvd_zero m)))
    rwa [show (-2272) * (2 * d 2 - 9 * d 1) + ((18) * (5 * d 5 - 126 * d 1) + (0)) = d 2 - ((-404) * d 1 + (101) * d 2 + (-2) * d 5) * (45) by omega] at h
  · show m ∣ d 3 - ((-404) * d 1 + (101) * d 2 + (-2) * d 5) * (120)
    have h0 : m ∣ d 3 - d 7 := H.sy 3 (by omega) (by omega)
    have h1 : m ∣ 2 * d 2 - 9 * d 1 := H.as 1 1 8 (by omega) (by omega) (by omega) (by omega)
    have h2 : m ∣ 3 * d 3 - 36 * d 1 := H.as 1 2 7 (by omega) (by omega) (by omega) (by omega)
    have h3 : m ∣ 5 * d 5 - 126 * d 1 := H.as 1 4 5 (by omega) (by omega) (by omega) (by omega)
    have h4 : m ∣ 7 * d 7 - 84 * d 1 := H.as 1 6 3 (by omega) (by omega) (by omega) (by omega)
    have h := (dv2 (-113120) h0 (dv2 (-6060) h1 (dv2 (37707) h2 (dv2 (48) h3 (dv2 (-16160) h4 (Int.dvd_zero m))))))
    rwa [show (-113120) * (d 3 - d 7) + ((-6060) * (2 * d 2 - 9 * d 1) + ((37707) * (3 * d 3 - 36 * d 1) + ((48) * (5 * d 5 - 126 * d 1) + ((-16160) * (7 * d 7 - 84 * d 1) + (0))))) = d 3 - ((-404) * d 1 + (101) * d 2 + (-2) * d 5) * (120) by omega] at h
  · show m ∣ d 4 - ((-404) * d 1 + (101) * d 2 + (-2) * d 5) * (210)
    have h0 : m ∣ d 4 - d 6 := H.sy 4 (by omega) (by omega)
    have h1 : m ∣ 4 * d 4 - 84 * d 1 := H.as 1 3 6 (by omega) (by omega) (by omega) (by omega)
    have h2 : m ∣ 5 * d 5 - 126 * d 1 := H.as 1 4 5 (by omega) (by omega) (by omega) (by omega)
    have h3 : m ∣ 15 * d 6 - 70 * d 2 := H.as 2 4 4 (by omega) (by omega) (by omega) (by omega)
    have h := (dv2 (4545) h0 (dv2 (-1136) h1 (dv2 (84) h2 (dv2 (303) h3 (Int.dvd_zero m)))))
    rwa [show (4545) * (d 4 - d 6) + ((-1136) * (4 * d 4 - 84 * d 1) + ((84) * (5 * d 5 - 126 * d 1) + ((303) * (15 * d 6 - 70 * d 2) + (0)))) = d 4 - ((-404) * d 1 + (101) * d 2 + (-2) * d 5) * (210) by omega] at h
  · show m ∣ d 5 - ((-404) * d 1 + (101) * d 2 + (-2) * d 5) * (252)
    have h0 : m ∣ 2 * d 2 - 9 * d 1 := H.as 1 1 8 (by omega) (by omega) (by omega) (by omega)
    have h1 : m ∣ 5 * d 5 - 126 * d 1 := H.as 1 4 5 (by omega) (by omega) (by omega) (by omega)
    have h := (dv2 (-12726) h0 (dv2 (101) h1 (Int.dvd_zero m)))
    rwa [show (-12726) * (2 * d 2 - 9 * d 1) + ((101) * (5 * d 5 - 126 * d 1) + (0)) = d 5 - ((-404) * d 1 + (101) * d 2 + (-2) * d 5) * (252) by omega] at h
  · show m ∣ d 6 - ((-404) * d 1 + (101) * d 2 + (-2) * d 5) * (210)
    have h0 : m ∣ d 4 - d 6 := H.sy 4 (by omega) (by omega)
    have h1 : m ∣ 4 * d 4 - 84 * d 1 := H.as 1 3 6 (by omega) (by omega) (by omega) (by omega)
    have h2 : m ∣ 5 * d 5 - 126 * d 1 := H.as 1 4 5 (by omega) (by omega) (by omega) (by omega)
    have h3 : m ∣ 15 * d 6 - 70 * d 2 := H.as 2 4 4 (by omega) (by omega) (by omega) (by omega)
    have h := (dv2 (4544) h0 (dv2 (-1136) h1 (dv2 (84) h2 (dv2 (303) h3 (Int.dvd_zero m)))))
    rwa [show (4544) * (d 4 - d 6) + ((-1136) * (4 * d 4 - 84 * d 1) + ((84) * (5 * d 5 - 126 * d 1) + ((303) * (15 * d 6 - 70 * d 2) + (0)))) = d 6 - ((-404) * d 1 + (101) * d 2 + (-2) * d 5) * (210) by omega] at h
  · show m ∣ d 7 - ((-404) * d 1 + (101) * d 2 + (-2) * d 5) * (120)
    have h0 : m ∣ d 3 - d 7 := H.sy 3 (by omega) (by omega)
    have h1 : m ∣ 2 * d 2 - 9 * d 1 := H.as 1 1 8 (by omega) (by omega) (by omega) (by omega)
    have h2 : m ∣ 3 * d 3 - 36 * d 1 := H.as 1 2 7 (by omega) (by omega) (by omega) (by omega)
    have h3 : m ∣ 5 * d 5 - 126 * d 1 := H.as 1 4 5 (by omega) (by omega) (by omega) (by omega)
    have h4 : m ∣ 7 * d 7 - 84 * d 1 := H.as 1 6 3 (by omega) (by omega) (by omega) (by omega)
    have h := (dv2 (-113121) h0 (dv2 (-6060) h1 (dv2 (37707) h2 (dv2 (48) h3 (dv2 (-16160) h4 (Int.dvd_zero m))))))
    rwa [show (-113121) * (d 3 - d 7) + ((-6060) * (2 * d 2 - 9 * d 1) + ((37707) * (3 * d 3 - 36 * d 1) + ((48) * (5 * d 5 - 126 * d 1) + ((-16160) * (7 * d 7 - 84 * d 1) + (0))))) = d 7 - ((-404) * d 1 + (101) * d 2 + (-2) * d 5) * (120) by omega] at h
  · show m ∣ d 8 - ((-404) * d 1 + (101) * d 2 + (-2) * d 5) * (45)
    have h0 : m ∣ d 2 - d 8 := H.sy 2 (by omega) (by omega)
    have h1 : m ∣ 2 * d 2 - 9 * d 1 := H.as 1 1 8 (by omega) (by omega) (by omega) (by omega)
    have h2 : m ∣ 5 * d 5 - 126 * d 1 := H.as 1 4 5 (by omega) (by omega) (by omega) (by omega)
    have h := (dv2 (-1) h0 (dv2 (-2272) h1 (dv2 (18) h2 (Int.dvd_zero m))))
    rwa [show (-1) * (d 2 - d 8) + ((-2272) * (2 * d 2 - 9 * d 1) + ((18) * (5 * d 5 - 126 * d 1) + (0))) = d 8 - ((-404) * d 1 + (101) * d 2 + (-2) * d 5) * (45) by omega] at h
  · show m ∣ d 9 - ((-404) * d 1 + (101) * d 2 + (-2) * d 5) * (10)
    have h0 : m ∣ d 1 - d 9 := H.sy 1 (by omega) (by omega)
    have h1 : m ∣ 2 * d 2 - 9 * d 1 := H.as 1 1 8 (by omega) (by omega) (by omega) (by omega)
    have h2 : m ∣ 5 * d 5 - 126 * d 1 := H.as 1 4 5 (by omega) (by omega) (by omega) (by omega)
    have h := (dv2 (-1) h0 (dv2 (-505) h1 (dv2 (4) h2 (Int.dvd_zero m))))
    rwa [show (-1) * (d 1 - d 9) + ((-505) * (2 * d 2 - 9 * d 1) + ((4) * (5 * d 5 - 126 * d 1) + (0))) = d 9 - ((-404) * d 1 + (101) * d 2 + (-2) * d 5) * (10) by omega] at h
theorem coc_ex {m : Int} {n : Nat} {d : Nat → Int} (h2 : 2 ≤ n) (hn : n ≤ 10) (H : Coc m n d) : ∃ x, ∀ i, 1 ≤ i → i < n → m ∣ d i - x * laz n i := by
  obtain rfl | rfl | rfl | rfl | rfl | rfl | rfl | rfl | rfl : n = 2 ∨ n = 3 ∨ n = 4 ∨ n = 5 ∨ n = 6 ∨ n = 7 ∨ n = 8 ∨ n = 9 ∨ n = 10 := by omega
  · exact coc_2 H
  · exact coc_3 H
  · exact coc_4 H
  · exact coc_5 H
  · exact coc_6 H
  · exact coc_7 H
  · exact coc_8 H
  · exact coc_9 H
  · exact coc_10 H
end Go.Proofs.YteijannfbafdpaaGreatDoor

/- Laws that agree below their degree differ by a cocycle. No program stands here. -/
set_option linter.unusedSimpArgs false
set_option linter.unusedVariables false
namespace Go.Proofs.YteijannfbafdpaaGreatDoor
open Rg

section gen
variable {T : Type} [Rg T]
theorem pw_up1 {m : Int} {a b : T} (ha : lo m 1 a) (hb : lo m 1 b) (h : eqv m 2 a b) : ∀ k, eqv m (k + 1) (pw a k) (pw b k)
  | 0 => eqv_rfl
  | k + 1 => by
    have h1 := eqv_up ha (pw_up1 ha hb h k)
    have h2 := eqv_up (pw_lo hb k) h
    rw [ml_comm, ml_comm a] at h1
    exact eqv_trans (eqv_le h1 (by omega)) (eqv_le h2 (by omega))
theorem sm_ite {n k : Nat} (hk : k < n) (c : T) : sm n (fun i => if i = k then c else zz) = c := by
  induction n with
  | zero => omega
  | succ n ih =>
    show ad (sm n _) (if n = k then c else zz) = c
    by_cases h : n = k
    · rw [if_pos h, sm_none (n := n) fun i hi => by rw [if_neg (by omega)], zz_ad]
    · rw [if_neg h, ih (by omega), ad_zz]
end gen
theorem lo_law {m : Int} {n : Nat} {F : Nat → Nat → Int} (L : Lw m n F) : lo m 1 F := fun i => by
  by_cases hi : i = 0
  · subst hi
    exact lo_fun fun j hj => by rw [show j = 0 by omega]; exact L.zer
  · rw [show 1 - i = 0 by omega]; exact lo_0 _ _
theorem lo_xy (m : Int) : lo m 1 (ad xP yP) := fun i => by
  by_cases hi : i = 0
  · subst hi
    exact lo_fun fun j hj => by
      rw [show j = 0 by omega]
      show xP 0 0 + yP 0 0 = 0
      rw [xP_at, yP_at]; rfl
  · rw [show 1 - i = 0 by omega]; exact lo_0 _ _
theorem law_xy {m : Int} {n : Nat} {F : Nat → Nat → Int} (L : Lw m n F) : eqv m 2 F (ad xP yP) := by
  have h2 := L.two
  refine eqv2.2 fun i j h => ?_
  show _ = (xP i j + yP i j) % m
  rw [xP_at, yP_at]
  obtain ⟨rfl, rfl⟩ | ⟨rfl, rfl⟩ | ⟨rfl, rfl⟩ : (i = 0 ∧ j = 0) ∨ (i = 1 ∧ j = 0) ∨ (i = 0 ∧ j = 1) := by omega
  · rw [L.zer]; rfl
  · rw [L.un 1 (by omega)]; rfl
  · rw [L.sy 0 1 (by omega), L.un 1 (by omega)]; rfl
theorem xy_pw (a b : Nat) : (pw (ad xP yP) (a + b) : Nat → Nat → Int) a b = bin (a + b) a := by
  rw [pw_binom, ser_sm, ser_sm]
  rw [sm_congr (g := fun i => if i = a then bin (a + b) a else zz) fun i hi => ?_, sm_ite (by omega)]
  rw [ser_icml, ser_icml, show pw xP i = onx (pw xS i) from (onx_pw xS i).symm, show pw yP (a + b - i) = ony (pw xS (a + b - i)) from (ony_pw xS _).symm, onx_ony, pw_xS, pw_xS]
  show bin (a + b) i * (mon i 1 a * mon (a + b - i) 1 b) = if i = a then bin (a + b) a else 0
  unfold mon
  by_cases h : i = a
  · subst h
    rw [if_pos rfl, if_pos (by omega), if_pos rfl]; omega
  · rw [if_neg (show ¬ a = i by omega), if_neg h]; simp
theorem law_pw {m : Int} {n : Nat} {F : Nat → Nat → Int} (L : Lw m n F) (a b : Nat) : (pw F (a + b) : Nat → Nat → Int) a b % m = bin (a + b) a % m := by
  rw [← xy_pw]
  exact eqv2.1 (pw_up1 (lo_law L) (lo_xy m) (law_xy L) (a + b)) a b (by omega)
theorem law_pw_z {m : Int} {n : Nat} {F : Nat → Nat → Int} (L : Lw m n F) {i a b : Nat} (h : a + b < i) : (pw F i : Nat → Nat → Int) a b % m = 0 % m :=
  eqv2.1 (eqv_lo (pw_lo (lo_law L) i)) a b h
end Go.Proofs.YteijannfbafdpaaGreatDoor
