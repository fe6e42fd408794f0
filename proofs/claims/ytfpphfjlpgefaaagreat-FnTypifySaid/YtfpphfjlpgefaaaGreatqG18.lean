/- Lemmas. -/
import Derived.Test.YtfpphfjlpgefaaaGreatqG7
import Derived.Test.YtfpphfjlpgefaaaGreatqG11
set_option linter.unusedSimpArgs false
set_option linter.unusedVariables false
namespace Go.Proofs.YtfpphfjlpgefaaaGreat
section

def lam (n : Nat) : Int := at0 [0, 0, 2, 3, 2, 5, 1, 7, 2, 3, 1] n
def laz (n i : Nat) : Int := if 1 ≤ i ∧ i < n then bin n i / lam n else 0
theorem dv2 {m a b : Int} (k : Int) (h : m ∣ a) (t : m ∣ b) : m ∣ k * a + b := Int.dvd_add (Int.dvd_mul_of_dvd_right h) t
structure Coc (m : Int) (n : Nat) (d : Nat → Int) : Prop where
 sy : ∀ i, 1 ≤ i → i < n → m ∣ d i - d (n - i)
 as : ∀ p q k, 1 ≤ p → 1 ≤ q → 1 ≤ k → p + q + k = n → m ∣ bin (p + q) p * d (p + q) - bin (q + k) q * d p

theorem coc_2 {m : Int} {d : Nat → Int} (H : Coc m 2 d) : ∃ x, ∀ i, 1 ≤ i → i < 2 → m ∣ d i - x * laz 2 i := by
 refine ⟨(1) * d 1, fun i h1 h2 => ?_⟩
 obtain rfl : i = 1 := Oo
 ·show m ∣ d 1 - ((1) * d 1) * (1)
  rw [show d 1 - ((1) * d 1) * (1) = 0 by omega]; exact Int.dvd_zero m
theorem coc_3 {m : Int} {d : Nat → Int} (H : Coc m 3 d) : ∃ x, ∀ i, 1 ≤ i → i < 3 → m ∣ d i - x * laz 3 i := by
 refine ⟨(1) * d 1, fun i h1 h2 => ?_⟩
 obtain rfl | rfl : i = 1 ∨ i = 2 := Oo
 ·show m ∣ d 1 - ((1) * d 1) * (1)
  rw [show d 1 - ((1) * d 1) * (1) = 0 by omega]; exact Int.dvd_zero m
 ·show m ∣ d 2 - ((1) * d 1) * (1)
  have h0 : m ∣ d 1 - d 2 := H.sy 1 Oo Oo; have h := (dv2 (-1) h0 (Int.dvd_zero m))
  rwa [show (-1) * (d 1 - d 2) + (0) = d 2 - ((1) * d 1) * (1) by omega] at h
theorem coc_4 {m : Int} {d : Nat → Int} (H : Coc m 4 d) : ∃ x, ∀ i, 1 ≤ i → i < 4 → m ∣ d i - x * laz 4 i := by
 refine ⟨(-1) * d 1 + (1) * d 2, fun i h1 h2 => ?_⟩
 obtain rfl | rfl | rfl : i = 1 ∨ i = 2 ∨ i = 3 := Oo
 ·show m ∣ d 1 - ((-1) * d 1 + (1) * d 2) * (2)
  have h0 : m ∣ 2 * d 2 - 3 * d 1 := H.as 1 1 2 Oo Oo Oo Oo; have h := (dv2 (-1) h0 (Int.dvd_zero m))
  rwa [show (-1) * (2 * d 2 - 3 * d 1) + (0) = d 1 - ((-1) * d 1 + (1) * d 2) * (2) by omega] at h
 ·show m ∣ d 2 - ((-1) * d 1 + (1) * d 2) * (3)
  have h0 : m ∣ 2 * d 2 - 3 * d 1 := H.as 1 1 2 Oo Oo Oo Oo; have h := (dv2 (-1) h0 (Int.dvd_zero m))
  rwa [show (-1) * (2 * d 2 - 3 * d 1) + (0) = d 2 - ((-1) * d 1 + (1) * d 2) * (3) by omega] at h
 ·show m ∣ d 3 - ((-1) * d 1 + (1) * d 2) * (2)
  have h0 : m ∣ d 1 - d 3 := H.sy 1 Oo Oo; have h1 : m ∣ 2 * d 2 - 3 * d 1 := H.as 1 1 2 Oo Oo Oo Oo; have h := (dv2 (-1) h0 (dv2 (-1) h1 (Int.dvd_zero m)))
  rwa [show (-1) * (d 1 - d 3) + ((-1) * (2 * d 2 - 3 * d 1) + (0)) = d 3 - ((-1) * d 1 + (1) * d 2) * (2) by omega] at h
theorem coc_5 {m : Int} {d : Nat → Int} (H : Coc m 5 d) : ∃ x, ∀ i, 1 ≤ i → i < 5 → m ∣ d i - x * laz 5 i := by
 refine ⟨(1) * d 1, fun i h1 h2 => ?_⟩
 obtain rfl | rfl | rfl | rfl : i = 1 ∨ i = 2 ∨ i = 3 ∨ i = 4 := Oo
 ·show m ∣ d 1 - ((1) * d 1) * (1)
  rw [show d 1 - ((1) * d 1) * (1) = 0 by omega]; exact Int.dvd_zero m
 ·show m ∣ d 2 - ((1) * d 1) * (2)
  have h0 : m ∣ d 2 - d 3 := H.sy 2 Oo Oo; have h1 : m ∣ 2 * d 2 - 4 * d 1 := H.as 1 1 3 Oo Oo Oo Oo; have h2 : m ∣ 3 * d 3 - 6 * d 1 := H.as 1 2 2 Oo Oo Oo Oo; have h := (dv2 (3) h0 (dv2 (-1) h1 (dv2 (1) h2 (Int.dvd_zero m))))
  rwa [show (3) * (d 2 - d 3) + ((-1) * (2 * d 2 - 4 * d 1) + ((1) * (3 * d 3 - 6 * d 1) + (0))) = d 2 - ((1) * d 1) * (2) by omega] at h
 ·show m ∣ d 3 - ((1) * d 1) * (2)
  have h0 : m ∣ d 2 - d 3 := H.sy 2 Oo Oo; have h1 : m ∣ 2 * d 2 - 4 * d 1 := H.as 1 1 3 Oo Oo Oo Oo; have h2 : m ∣ 3 * d 3 - 6 * d 1 := H.as 1 2 2 Oo Oo Oo Oo; have h := (dv2 (2) h0 (dv2 (-1) h1 (dv2 (1) h2 (Int.dvd_zero m))))
  rwa [show (2) * (d 2 - d 3) + ((-1) * (2 * d 2 - 4 * d 1) + ((1) * (3 * d 3 - 6 * d 1) + (0))) = d 3 - ((1) * d 1) * (2) by omega] at h
 ·show m ∣ d 4 - ((1) * d 1) * (1)
  have h0 : m ∣ d 1 - d 4 := H.sy 1 Oo Oo; have h := (dv2 (-1) h0 (Int.dvd_zero m))
  rwa [show (-1) * (d 1 - d 4) + (0) = d 4 - ((1) * d 1) * (1) by omega] at h
theorem coc_6 {m : Int} {d : Nat → Int} (H : Coc m 6 d) : ∃ x, ∀ i, 1 ≤ i → i < 6 → m ∣ d i - x * laz 6 i := by
 refine ⟨(-14) * d 1 + (7) * d 2 + (-1) * d 3, fun i h1 h2 => ?_⟩
 obtain rfl | rfl | rfl | rfl | rfl : i = 1 ∨ i = 2 ∨ i = 3 ∨ i = 4 ∨ i = 5 := Oo
 ·show m ∣ d 1 - ((-14) * d 1 + (7) * d 2 + (-1) * d 3) * (6)
  have h0 : m ∣ 2 * d 2 - 5 * d 1 := H.as 1 1 4 Oo Oo Oo Oo; have h1 : m ∣ 3 * d 3 - 10 * d 1 := H.as 1 2 3 Oo Oo Oo Oo; have h := (dv2 (-21) h0 (dv2 (2) h1 (Int.dvd_zero m)))
  rwa [show (-21) * (2 * d 2 - 5 * d 1) + ((2) * (3 * d 3 - 10 * d 1) + (0)) = d 1 - ((-14) * d 1 + (7) * d 2 + (-1) * d 3) * (6) by omega] at h
 ·show m ∣ d 2 - ((-14) * d 1 + (7) * d 2 + (-1) * d 3) * (15)
  have h0 : m ∣ 2 * d 2 - 5 * d 1 := H.as 1 1 4 Oo Oo Oo Oo; have h1 : m ∣ 3 * d 3 - 10 * d 1 := H.as 1 2 3 Oo Oo Oo Oo; have h := (dv2 (-52) h0 (dv2 (5) h1 (Int.dvd_zero m)))
  rwa [show (-52) * (2 * d 2 - 5 * d 1) + ((5) * (3 * d 3 - 10 * d 1) + (0)) = d 2 - ((-14) * d 1 + (7) * d 2 + (-1) * d 3) * (15) by omega] at h
 ·show m ∣ d 3 - ((-14) * d 1 + (7) * d 2 + (-1) * d 3) * (20)
  have h0 : m ∣ 2 * d 2 - 5 * d 1 := H.as 1 1 4 Oo Oo Oo Oo; have h1 : m ∣ 3 * d 3 - 10 * d 1 := H.as 1 2 3 Oo Oo Oo Oo; have h := (dv2 (-70) h0 (dv2 (7) h1 (Int.dvd_zero m)))
  rwa [show (-70) * (2 * d 2 - 5 * d 1) + ((7) * (3 * d 3 - 10 * d 1) + (0)) = d 3 - ((-14) * d 1 + (7) * d 2 + (-1) * d 3) * (20) by omega] at h
 ·show m ∣ d 4 - ((-14) * d 1 + (7) * d 2 + (-1) * d 3) * (15)
  have h0 : m ∣ d 2 - d 4 := H.sy 2 Oo Oo; have h1 : m ∣ 2 * d 2 - 5 * d 1 := H.as 1 1 4 Oo Oo Oo Oo; have h2 : m ∣ 3 * d 3 - 10 * d 1 := H.as 1 2 3 Oo Oo Oo Oo; have h := (dv2 (-1) h0 (dv2 (-52) h1 (dv2 (5) h2 (Int.dvd_zero m))))
  rwa [show (-1) * (d 2 - d 4) + ((-52) * (2 * d 2 - 5 * d 1) + ((5) * (3 * d 3 - 10 * d 1) + (0))) = d 4 - ((-14) * d 1 + (7) * d 2 + (-1) * d 3) * (15) by omega] at h
 ·show m ∣ d 5 - ((-14) * d 1 + (7) * d 2 + (-1) * d 3) * (6)
  have h0 : m ∣ d 1 - d 5 := H.sy 1 Oo Oo; have h1 : m ∣ 2 * d 2 - 5 * d 1 := H.as 1 1 4 Oo Oo Oo Oo; have h2 : m ∣ 3 * d 3 - 10 * d 1 := H.as 1 2 3 Oo Oo Oo Oo; have h := (dv2 (-1) h0 (dv2 (-21) h1 (dv2 (2) h2 (Int.dvd_zero m))))
  rwa [show (-1) * (d 1 - d 5) + ((-21) * (2 * d 2 - 5 * d 1) + ((2) * (3 * d 3 - 10 * d 1) + (0))) = d 5 - ((-14) * d 1 + (7) * d 2 + (-1) * d 3) * (6) by omega] at h
theorem coc_7 {m : Int} {d : Nat → Int} (H : Coc m 7 d) : ∃ x, ∀ i, 1 ≤ i → i < 7 → m ∣ d i - x * laz 7 i := by
 refine ⟨(1) * d 1, fun i h1 h2 => ?_⟩
 obtain rfl | rfl | rfl | rfl | rfl | rfl : i = 1 ∨ i = 2 ∨ i = 3 ∨ i = 4 ∨ i = 5 ∨ i = 6 := Oo
 ·show m ∣ d 1 - ((1) * d 1) * (1)
  rw [show d 1 - ((1) * d 1) * (1) = 0 by omega]; exact Int.dvd_zero m
 ·show m ∣ d 2 - ((1) * d 1) * (3)
  have h0 : m ∣ d 2 - d 5 := H.sy 2 Oo Oo; have h1 : m ∣ 2 * d 2 - 6 * d 1 := H.as 1 1 5 Oo Oo Oo Oo; have h2 : m ∣ 5 * d 5 - 15 * d 1 := H.as 1 4 2 Oo Oo Oo Oo; have h := (dv2 (5) h0 (dv2 (-2) h1 (dv2 (1) h2 (Int.dvd_zero m))))
  rwa [show (5) * (d 2 - d 5) + ((-2) * (2 * d 2 - 6 * d 1) + ((1) * (5 * d 5 - 15 * d 1) + (0))) = d 2 - ((1) * d 1) * (3) by omega] at h
 ·show m ∣ d 3 - ((1) * d 1) * (5)
  have h0 : m ∣ d 3 - d 4 := H.sy 3 Oo Oo; have h1 : m ∣ 3 * d 3 - 15 * d 1 := H.as 1 2 4 Oo Oo Oo Oo; have h2 : m ∣ 4 * d 4 - 20 * d 1 := H.as 1 3 3 Oo Oo Oo Oo; have h := (dv2 (4) h0 (dv2 (-1) h1 (dv2 (1) h2 (Int.dvd_zero m))))
  rwa [show (4) * (d 3 - d 4) + ((-1) * (3 * d 3 - 15 * d 1) + ((1) * (4 * d 4 - 20 * d 1) + (0))) = d 3 - ((1) * d 1) * (5) by omega] at h
 ·show m ∣ d 4 - ((1) * d 1) * (5)
  have h0 : m ∣ d 3 - d 4 := H.sy 3 Oo Oo; have h1 : m ∣ 3 * d 3 - 15 * d 1 := H.as 1 2 4 Oo Oo Oo Oo; have h2 : m ∣ 4 * d 4 - 20 * d 1 := H.as 1 3 3 Oo Oo Oo Oo; have h := (dv2 (3) h0 (dv2 (-1) h1 (dv2 (1) h2 (Int.dvd_zero m))))
  rwa [show (3) * (d 3 - d 4) + ((-1) * (3 * d 3 - 15 * d 1) + ((1) * (4 * d 4 - 20 * d 1) + (0))) = d 4 - ((1) * d 1) * (5) by omega] at h
 ·show m ∣ d 5 - ((1) * d 1) * (3)
  have h0 : m ∣ d 2 - d 5 := H.sy 2 Oo Oo; have h1 : m ∣ 2 * d 2 - 6 * d 1 := H.as 1 1 5 Oo Oo Oo Oo; have h2 : m ∣ 5 * d 5 - 15 * d 1 := H.as 1 4 2 Oo Oo Oo Oo; have h := (dv2 (4) h0 (dv2 (-2) h1 (dv2 (1) h2 (Int.dvd_zero m))))
  rwa [show (4) * (d 2 - d 5) + ((-2) * (2 * d 2 - 6 * d 1) + ((1) * (5 * d 5 - 15 * d 1) + (0))) = d 5 - ((1) * d 1) * (3) by omega] at h
 ·show m ∣ d 6 - ((1) * d 1) * (1)
  have h0 : m ∣ d 1 - d 6 := H.sy 1 Oo Oo; have h := (dv2 (-1) h0 (Int.dvd_zero m))
  rwa [show (-1) * (d 1 - d 6) + (0) = d 6 - ((1) * d 1) * (1) by omega] at h
theorem coc_8 {m : Int} {d : Nat → Int} (H : Coc m 8 d) : ∃ x, ∀ i, 1 ≤ i → i < 8 → m ∣ d i - x * laz 8 i := by
 refine ⟨(51) * d 1 + (-17) * d 2 + (1) * d 4, fun i h1 h2 => ?_⟩
 obtain rfl | rfl | rfl | rfl | rfl | rfl | rfl : i = 1 ∨ i = 2 ∨ i = 3 ∨ i = 4 ∨ i = 5 ∨ i = 6 ∨ i = 7 := Oo
 ·show m ∣ d 1 - ((51) * d 1 + (-17) * d 2 + (1) * d 4) * (4)
  have h0 : m ∣ 2 * d 2 - 7 * d 1 := H.as 1 1 6 Oo Oo Oo Oo; have h1 : m ∣ 4 * d 4 - 35 * d 1 := H.as 1 3 4 Oo Oo Oo Oo; have h := (dv2 (34) h0 (dv2 (-1) h1 (Int.dvd_zero m)))
  rwa [show (34) * (2 * d 2 - 7 * d 1) + ((-1) * (4 * d 4 - 35 * d 1) + (0)) = d 1 - ((51) * d 1 + (-17) * d 2 + (1) * d 4) * (4) by omega] at h
 ·show m ∣ d 2 - ((51) * d 1 + (-17) * d 2 + (1) * d 4) * (14)
  have h0 : m ∣ 2 * d 2 - 7 * d 1 := H.as 1 1 6 Oo Oo Oo Oo; have h1 : m ∣ 4 * d 4 - 35 * d 1 := H.as 1 3 4 Oo Oo Oo Oo; have h2 : m ∣ 6 * d 4 - 15 * d 2 := H.as 2 2 4 Oo Oo Oo Oo; have h := (dv2 (67) h0 (dv2 (7) h1 (dv2 (-7) h2 (Int.dvd_zero m))))
  rwa [show (67) * (2 * d 2 - 7 * d 1) + ((7) * (4 * d 4 - 35 * d 1) + ((-7) * (6 * d 4 - 15 * d 2) + (0))) = d 2 - ((51) * d 1 + (-17) * d 2 + (1) * d 4) * (14) by omega] at h
 ·show m ∣ d 3 - ((51) * d 1 + (-17) * d 2 + (1) * d 4) * (28)
  have h0 : m ∣ d 3 - d 5 := H.sy 3 Oo Oo; have h1 : m ∣ 2 * d 2 - 7 * d 1 := H.as 1 1 6 Oo Oo Oo Oo; have h2 : m ∣ 3 * d 3 - 21 * d 1 := H.as 1 2 5 Oo Oo Oo Oo; have h3 : m ∣ 4 * d 4 - 35 * d 1 := H.as 1 3 4 Oo Oo Oo Oo; have h4 : m ∣ 5 * d 5 - 35 * d 1 := H.as 1 4 3 Oo Oo Oo Oo; have h := (dv2 (205) h0 (dv2 (238) h1 (dv2 (-68) h2 (dv2 (-7) h3 (dv2 (41) h4 (Int.dvd_zero m))))))
  rwa [show (205) * (d 3 - d 5) + ((238) * (2 * d 2 - 7 * d 1) + ((-68) * (3 * d 3 - 21 * d 1) + ((-7) * (4 * d 4 - 35 * d 1) + ((41) * (5 * d 5 - 35 * d 1) + (0))))) = d 3 - ((51) * d 1 + (-17) * d 2 + (1) * d 4) * (28) by omega] at h
 ·show m ∣ d 4 - ((51) * d 1 + (-17) * d 2 + (1) * d 4) * (35)
  have h0 : m ∣ 2 * d 2 - 7 * d 1 := H.as 1 1 6 Oo Oo Oo Oo; have h1 : m ∣ 4 * d 4 - 35 * d 1 := H.as 1 3 4 Oo Oo Oo Oo; have h2 : m ∣ 6 * d 4 - 15 * d 2 := H.as 2 2 4 Oo Oo Oo Oo; have h := (dv2 (170) h0 (dv2 (17) h1 (dv2 (-17) h2 (Int.dvd_zero m))))
  rwa [show (170) * (2 * d 2 - 7 * d 1) + ((17) * (4 * d 4 - 35 * d 1) + ((-17) * (6 * d 4 - 15 * d 2) + (0))) = d 4 - ((51) * d 1 + (-17) * d 2 + (1) * d 4) * (35) by omega] at h
 ·show m ∣ d 5 - ((51) * d 1 + (-17) * d 2 + (1) * d 4) * (28)
  have h0 : m ∣ d 3 - d 5 := H.sy 3 Oo Oo; have h1 : m ∣ 2 * d 2 - 7 * d 1 := H.as 1 1 6 Oo Oo Oo Oo; have h2 : m ∣ 3 * d 3 - 21 * d 1 := H.as 1 2 5 Oo Oo Oo Oo; have h3 : m ∣ 4 * d 4 - 35 * d 1 := H.as 1 3 4 Oo Oo Oo Oo; have h4 : m ∣ 5 * d 5 - 35 * d 1 := H.as 1 4 3 Oo Oo Oo Oo; have h := (dv2 (204) h0 (dv2 (238) h1 (dv2 (-68) h2 (dv2 (-7) h3 (dv2 (41) h4 (Int.dvd_zero m))))))
  rwa [show (204) * (d 3 - d 5) + ((238) * (2 * d 2 - 7 * d 1) + ((-68) * (3 * d 3 - 21 * d 1) + ((-7) * (4 * d 4 - 35 * d 1) + ((41) * (5 * d 5 - 35 * d 1) + (0))))) = d 5 - ((51) * d 1 + (-17) * d 2 + (1) * d 4) * (28) by omega] at h
 ·show m ∣ d 6 - ((51) * d 1 + (-17) * d 2 + (1) * d 4) * (14)
  have h0 : m ∣ d 2 - d 6 := H.sy 2 Oo Oo; have h1 : m ∣ 2 * d 2 - 7 * d 1 := H.as 1 1 6 Oo Oo Oo Oo; have h2 : m ∣ 4 * d 4 - 35 * d 1 := H.as 1 3 4 Oo Oo Oo Oo; have h3 : m ∣ 6 * d 4 - 15 * d 2 := H.as 2 2 4 Oo Oo Oo Oo; have h := (dv2 (-1) h0 (dv2 (67) h1 (dv2 (7) h2 (dv2 (-7) h3 (Int.dvd_zero m)))))
  rwa [show (-1) * (d 2 - d 6) + ((67) * (2 * d 2 - 7 * d 1) + ((7) * (4 * d 4 - 35 * d 1) + ((-7) * (6 * d 4 - 15 * d 2) + (0)))) = d 6 - ((51) * d 1 + (-17) * d 2 + (1) * d 4) * (14) by omega] at h
 ·show m ∣ d 7 - ((51) * d 1 + (-17) * d 2 + (1) * d 4) * (4)
  have h0 : m ∣ d 1 - d 7 := H.sy 1 Oo Oo; have h1 : m ∣ 2 * d 2 - 7 * d 1 := H.as 1 1 6 Oo Oo Oo Oo; have h2 : m ∣ 4 * d 4 - 35 * d 1 := H.as 1 3 4 Oo Oo Oo Oo; have h := (dv2 (-1) h0 (dv2 (34) h1 (dv2 (-1) h2 (Int.dvd_zero m))))
  rwa [show (-1) * (d 1 - d 7) + ((34) * (2 * d 2 - 7 * d 1) + ((-1) * (4 * d 4 - 35 * d 1) + (0))) = d 7 - ((51) * d 1 + (-17) * d 2 + (1) * d 4) * (4) by omega] at h
theorem coc_9 {m : Int} {d : Nat → Int} (H : Coc m 9 d) : ∃ x, ∀ i, 1 ≤ i → i < 9 → m ∣ d i - x * laz 9 i := by
 refine ⟨(-9) * d 1 + (1) * d 3, fun i h1 h2 => ?_⟩
 obtain rfl | rfl | rfl | rfl | rfl | rfl | rfl | rfl : i = 1 ∨ i = 2 ∨ i = 3 ∨ i = 4 ∨ i = 5 ∨ i = 6 ∨ i = 7 ∨ i = 8 := Oo
 ·show m ∣ d 1 - ((-9) * d 1 + (1) * d 3) * (3)
  have h0 : m ∣ 3 * d 3 - 28 * d 1 := H.as 1 2 6 Oo Oo Oo Oo; have h := (dv2 (-1) h0 (Int.dvd_zero m))
  rwa [show (-1) * (3 * d 3 - 28 * d 1) + (0) = d 1 - ((-9) * d 1 + (1) * d 3) * (3) by omega] at h
 ·show m ∣ d 2 - ((-9) * d 1 + (1) * d 3) * (12)
  have h0 : m ∣ d 2 - d 7 := H.sy 2 Oo Oo; have h1 : m ∣ 2 * d 2 - 8 * d 1 := H.as 1 1 7 Oo Oo Oo Oo; have h2 : m ∣ 3 * d 3 - 28 * d 1 := H.as 1 2 6 Oo Oo Oo Oo; have h3 : m ∣ 7 * d 7 - 28 * d 1 := H.as 1 6 2 Oo Oo Oo Oo; have h := (dv2 (-161) h0 (dv2 (81) h1 (dv2 (-4) h2 (dv2 (-23) h3 (Int.dvd_zero m)))))
  rwa [show (-161) * (d 2 - d 7) + ((81) * (2 * d 2 - 8 * d 1) + ((-4) * (3 * d 3 - 28 * d 1) + ((-23) * (7 * d 7 - 28 * d 1) + (0)))) = d 2 - ((-9) * d 1 + (1) * d 3) * (12) by omega] at h
 ·show m ∣ d 3 - ((-9) * d 1 + (1) * d 3) * (28)
  have h0 : m ∣ 3 * d 3 - 28 * d 1 := H.as 1 2 6 Oo Oo Oo Oo; have h := (dv2 (-9) h0 (Int.dvd_zero m))
  rwa [show (-9) * (3 * d 3 - 28 * d 1) + (0) = d 3 - ((-9) * d 1 + (1) * d 3) * (28) by omega] at h
 ·show m ∣ d 4 - ((-9) * d 1 + (1) * d 3) * (42)
  have h0 : m ∣ d 4 - d 5 := H.sy 4 Oo Oo; have h1 : m ∣ 3 * d 3 - 28 * d 1 := H.as 1 2 6 Oo Oo Oo Oo; have h2 : m ∣ 4 * d 4 - 56 * d 1 := H.as 1 3 5 Oo Oo Oo Oo; have h3 : m ∣ 5 * d 5 - 70 * d 1 := H.as 1 4 4 Oo Oo Oo Oo; have h := (dv2 (-815) h0 (dv2 (-14) h1 (dv2 (204) h2 (dv2 (-163) h3 (Int.dvd_zero m)))))
  rwa [show (-815) * (d 4 - d 5) + ((-14) * (3 * d 3 - 28 * d 1) + ((204) * (4 * d 4 - 56 * d 1) + ((-163) * (5 * d 5 - 70 * d 1) + (0)))) = d 4 - ((-9) * d 1 + (1) * d 3) * (42) by omega] at h
 ·show m ∣ d 5 - ((-9) * d 1 + (1) * d 3) * (42)
  have h0 : m ∣ d 4 - d 5 := H.sy 4 Oo Oo; have h1 : m ∣ 3 * d 3 - 28 * d 1 := H.as 1 2 6 Oo Oo Oo Oo; have h2 : m ∣ 4 * d 4 - 56 * d 1 := H.as 1 3 5 Oo Oo Oo Oo; have h3 : m ∣ 5 * d 5 - 70 * d 1 := H.as 1 4 4 Oo Oo Oo Oo; have h := (dv2 (-816) h0 (dv2 (-14) h1 (dv2 (204) h2 (dv2 (-163) h3 (Int.dvd_zero m)))))
  rwa [show (-816) * (d 4 - d 5) + ((-14) * (3 * d 3 - 28 * d 1) + ((204) * (4 * d 4 - 56 * d 1) + ((-163) * (5 * d 5 - 70 * d 1) + (0)))) = d 5 - ((-9) * d 1 + (1) * d 3) * (42) by omega] at h
 ·show m ∣ d 6 - ((-9) * d 1 + (1) * d 3) * (28)
  have h0 : m ∣ d 3 - d 6 := H.sy 3 Oo Oo; have h1 : m ∣ 3 * d 3 - 28 * d 1 := H.as 1 2 6 Oo Oo Oo Oo; have h := (dv2 (-1) h0 (dv2 (-9) h1 (Int.dvd_zero m)))
  rwa [show (-1) * (d 3 - d 6) + ((-9) * (3 * d 3 - 28 * d 1) + (0)) = d 6 - ((-9) * d 1 + (1) * d 3) * (28) by omega] at h
 ·show m ∣ d 7 - ((-9) * d 1 + (1) * d 3) * (12)
  have h0 : m ∣ d 2 - d 7 := H.sy 2 Oo Oo; have h1 : m ∣ 2 * d 2 - 8 * d 1 := H.as 1 1 7 Oo Oo Oo Oo; have h2 : m ∣ 3 * d 3 - 28 * d 1 := H.as 1 2 6 Oo Oo Oo Oo; have h3 : m ∣ 7 * d 7 - 28 * d 1 := H.as 1 6 2 Oo Oo Oo Oo; have h := (dv2 (-162) h0 (dv2 (81) h1 (dv2 (-4) h2 (dv2 (-23) h3 (Int.dvd_zero m)))))
  rwa [show (-162) * (d 2 - d 7) + ((81) * (2 * d 2 - 8 * d 1) + ((-4) * (3 * d 3 - 28 * d 1) + ((-23) * (7 * d 7 - 28 * d 1) + (0)))) = d 7 - ((-9) * d 1 + (1) * d 3) * (12) by omega] at h
 ·show m ∣ d 8 - ((-9) * d 1 + (1) * d 3) * (3)
  have h0 : m ∣ d 1 - d 8 := H.sy 1 Oo Oo; have h1 : m ∣ 3 * d 3 - 28 * d 1 := H.as 1 2 6 Oo Oo Oo Oo; have h := (dv2 (-1) h0 (dv2 (-1) h1 (Int.dvd_zero m)))
  rwa [show (-1) * (d 1 - d 8) + ((-1) * (3 * d 3 - 28 * d 1) + (0)) = d 8 - ((-9) * d 1 + (1) * d 3) * (3) by omega] at h
theorem coc_10 {m : Int} {d : Nat → Int} (H : Coc m 10 d) : ∃ x, ∀ i, 1 ≤ i → i < 10 → m ∣ d i - x * laz 10 i := by
 refine ⟨(-404) * d 1 + (101) * d 2 + (-2) * d 5, fun i h1 h2 => ?_⟩
 obtain rfl | rfl | rfl | rfl | rfl | rfl | rfl | rfl | rfl : i = 1 ∨ i = 2 ∨ i = 3 ∨ i = 4 ∨ i = 5 ∨ i = 6 ∨ i = 7 ∨ i = 8 ∨ i = 9 := Oo
 ·show m ∣ d 1 - ((-404) * d 1 + (101) * d 2 + (-2) * d 5) * (10)
  have h0 : m ∣ 2 * d 2 - 9 * d 1 := H.as 1 1 8 Oo Oo Oo Oo; have h1 : m ∣ 5 * d 5 - 126 * d 1 := H.as 1 4 5 Oo Oo Oo Oo; have h := (dv2 (-505) h0 (dv2 (4) h1 (Int.dvd_zero m)))
  rwa [show (-505) * (2 * d 2 - 9 * d 1) + ((4) * (5 * d 5 - 126 * d 1) + (0)) = d 1 - ((-404) * d 1 + (101) * d 2 + (-2) * d 5) * (10) by omega] at h
 ·show m ∣ d 2 - ((-404) * d 1 + (101) * d 2 + (-2) * d 5) * (45)
  have h0 : m ∣ 2 * d 2 - 9 * d 1 := H.as 1 1 8 Oo Oo Oo Oo; have h1 : m ∣ 5 * d 5 - 126 * d 1 := H.as 1 4 5 Oo Oo Oo Oo; have h := (dv2 (-2272) h0 (dv2 (18) h1 (Int.dvd_zero m)))
  rwa [show (-2272) * (2 * d 2 - 9 * d 1) + ((18) * (5 * d 5 - 126 * d 1) + (0)) = d 2 - ((-404) * d 1 + (101) * d 2 + (-2) * d 5) * (45) by omega] at h
 ·show m ∣ d 3 - ((-404) * d 1 + (101) * d 2 + (-2) * d 5) * (120)
  have h0 : m ∣ d 3 - d 7 := H.sy 3 Oo Oo; have h1 : m ∣ 2 * d 2 - 9 * d 1 := H.as 1 1 8 Oo Oo Oo Oo; have h2 : m ∣ 3 * d 3 - 36 * d 1 := H.as 1 2 7 Oo Oo Oo Oo; have h3 : m ∣ 5 * d 5 - 126 * d 1 := H.as 1 4 5 Oo Oo Oo Oo; have h4 : m ∣ 7 * d 7 - 84 * d 1 := H.as 1 6 3 Oo Oo Oo Oo; have h := (dv2 (-113120) h0 (dv2 (-6060) h1 (dv2 (37707) h2 (dv2 (48) h3 (dv2 (-16160) h4 (Int.dvd_zero m))))))
  rwa [show (-113120) * (d 3 - d 7) + ((-6060) * (2 * d 2 - 9 * d 1) + ((37707) * (3 * d 3 - 36 * d 1) + ((48) * (5 * d 5 - 126 * d 1) + ((-16160) * (7 * d 7 - 84 * d 1) + (0))))) = d 3 - ((-404) * d 1 + (101) * d 2 + (-2) * d 5) * (120) by omega] at h
 ·show m ∣ d 4 - ((-404) * d 1 + (101) * d 2 + (-2) * d 5) * (210)
  have h0 : m ∣ d 4 - d 6 := H.sy 4 Oo Oo; have h1 : m ∣ 4 * d 4 - 84 * d 1 := H.as 1 3 6 Oo Oo Oo Oo; have h2 : m ∣ 5 * d 5 - 126 * d 1 := H.as 1 4 5 Oo Oo Oo Oo; have h3 : m ∣ 15 * d 6 - 70 * d 2 := H.as 2 4 4 Oo Oo Oo Oo; have h := (dv2 (4545) h0 (dv2 (-1136) h1 (dv2 (84) h2 (dv2 (303) h3 (Int.dvd_zero m)))))
  rwa [show (4545) * (d 4 - d 6) + ((-1136) * (4 * d 4 - 84 * d 1) + ((84) * (5 * d 5 - 126 * d 1) + ((303) * (15 * d 6 - 70 * d 2) + (0)))) = d 4 - ((-404) * d 1 + (101) * d 2 + (-2) * d 5) * (210) by omega] at h
 ·show m ∣ d 5 - ((-404) * d 1 + (101) * d 2 + (-2) * d 5) * (252)
  have h0 : m ∣ 2 * d 2 - 9 * d 1 := H.as 1 1 8 Oo Oo Oo Oo; have h1 : m ∣ 5 * d 5 - 126 * d 1 := H.as 1 4 5 Oo Oo Oo Oo; have h := (dv2 (-12726) h0 (dv2 (101) h1 (Int.dvd_zero m)))
  rwa [show (-12726) * (2 * d 2 - 9 * d 1) + ((101) * (5 * d 5 - 126 * d 1) + (0)) = d 5 - ((-404) * d 1 + (101) * d 2 + (-2) * d 5) * (252) by omega] at h
 ·show m ∣ d 6 - ((-404) * d 1 + (101) * d 2 + (-2) * d 5) * (210)
  have h0 : m ∣ d 4 - d 6 := H.sy 4 Oo Oo; have h1 : m ∣ 4 * d 4 - 84 * d 1 := H.as 1 3 6 Oo Oo Oo Oo; have h2 : m ∣ 5 * d 5 - 126 * d 1 := H.as 1 4 5 Oo Oo Oo Oo; have h3 : m ∣ 15 * d 6 - 70 * d 2 := H.as 2 4 4 Oo Oo Oo Oo; have h := (dv2 (4544) h0 (dv2 (-1136) h1 (dv2 (84) h2 (dv2 (303) h3 (Int.dvd_zero m)))))
  rwa [show (4544) * (d 4 - d 6) + ((-1136) * (4 * d 4 - 84 * d 1) + ((84) * (5 * d 5 - 126 * d 1) + ((303) * (15 * d 6 - 70 * d 2) + (0)))) = d 6 - ((-404) * d 1 + (101) * d 2 + (-2) * d 5) * (210) by omega] at h
 ·show m ∣ d 7 - ((-404) * d 1 + (101) * d 2 + (-2) * d 5) * (120)
  have h0 : m ∣ d 3 - d 7 := H.sy 3 Oo Oo; have h1 : m ∣ 2 * d 2 - 9 * d 1 := H.as 1 1 8 Oo Oo Oo Oo; have h2 : m ∣ 3 * d 3 - 36 * d 1 := H.as 1 2 7 Oo Oo Oo Oo; have h3 : m ∣ 5 * d 5 - 126 * d 1 := H.as 1 4 5 Oo Oo Oo Oo; have h4 : m ∣ 7 * d 7 - 84 * d 1 := H.as 1 6 3 Oo Oo Oo Oo; have h := (dv2 (-113121) h0 (dv2 (-6060) h1 (dv2 (37707) h2 (dv2 (48) h3 (dv2 (-16160) h4 (Int.dvd_zero m))))))
  rwa [show (-113121) * (d 3 - d 7) + ((-6060) * (2 * d 2 - 9 * d 1) + ((37707) * (3 * d 3 - 36 * d 1) + ((48) * (5 * d 5 - 126 * d 1) + ((-16160) * (7 * d 7 - 84 * d 1) + (0))))) = d 7 - ((-404) * d 1 + (101) * d 2 + (-2) * d 5) * (120) by omega] at h
 ·show m ∣ d 8 - ((-404) * d 1 + (101) * d 2 + (-2) * d 5) * (45)
  have h0 : m ∣ d 2 - d 8 := H.sy 2 Oo Oo; have h1 : m ∣ 2 * d 2 - 9 * d 1 := H.as 1 1 8 Oo Oo Oo Oo; have h2 : m ∣ 5 * d 5 - 126 * d 1 := H.as 1 4 5 Oo Oo Oo Oo; have h := (dv2 (-1) h0 (dv2 (-2272) h1 (dv2 (18) h2 (Int.dvd_zero m))))
  rwa [show (-1) * (d 2 - d 8) + ((-2272) * (2 * d 2 - 9 * d 1) + ((18) * (5 * d 5 - 126 * d 1) + (0))) = d 8 - ((-404) * d 1 + (101) * d 2 + (-2) * d 5) * (45) by omega] at h
 ·show m ∣ d 9 - ((-404) * d 1 + (101) * d 2 + (-2) * d 5) * (10)
  have h0 : m ∣ d 1 - d 9 := H.sy 1 Oo Oo; have h1 : m ∣ 2 * d 2 - 9 * d 1 := H.as 1 1 8 Oo Oo Oo Oo; have h2 : m ∣ 5 * d 5 - 126 * d 1 := H.as 1 4 5 Oo Oo Oo Oo; have h := (dv2 (-1) h0 (dv2 (-505) h1 (dv2 (4) h2 (Int.dvd_zero m))))
  rwa [show (-1) * (d 1 - d 9) + ((-505) * (2 * d 2 - 9 * d 1) + ((4) * (5 * d 5 - 126 * d 1) + (0))) = d 9 - ((-404) * d 1 + (101) * d 2 + (-2) * d 5) * (10) by omega] at h
theorem coc_ex {m : Int} {n : Nat} {d : Nat → Int} (h2 : 2 ≤ n) (hn : n ≤ 10) (H : Coc m n d) : ∃ x, ∀ i, 1 ≤ i → i < n → m ∣ d i - x * laz n i := by
 obtain rfl | rfl | rfl | rfl | rfl | rfl | rfl | rfl | rfl : n = 2 ∨ n = 3 ∨ n = 4 ∨ n = 5 ∨ n = 6 ∨ n = 7 ∨ n = 8 ∨ n = 9 ∨ n = 10 := Oo
 ·exact coc_2 H
 ·exact coc_3 H
 ·exact coc_4 H
 ·exact coc_5 H
 ·exact coc_6 H
 ·exact coc_7 H
 ·exact coc_8 H
 ·exact coc_9 H
 ·exact coc_10 H
end
section
open Rg

section gen
variable {T : Type} [Rg T]
theorem qGR {m : Int} {a b : T} (ha : lo m 1 a) (hb : lo m 1 b) (h : eqv m 2 a b) : ∀ k, eqv m (k + 1) (pw a k) (pw b k)
 | 0 => qAY
 | k + 1 => by
   have h1 := qF_ ha (qGR ha hb h k); have h2 := qF_ (qAu hb k) h; rw [ml_comm, ml_comm a] at h1; exact qA2 (qBe h1 Oo) (qBe h2 Oo)
theorem qHb {n k : Nat} (hk : k < n) (c : T) : sm n (fun i => if i = k then c else zz) = c := by
 induction n with
 | zero => omega
 | succ n ih =>
   show ad (sm n _) (if n = k then c else zz) = c
   by_cases h : n = k
   ·rw [if_pos h, qBI (n := n) fun i hi => by rw [if_neg Oo], qBR]
   ·rw [if_neg h, ih Oo, ad_zz]
end gen
theorem qFI {m : Int} {n : Nat} {F : Nat → Nat → Int} (L : Lw m n F) : lo m 1 F := fun i => by
 by_cases hi : i = 0
 ·subst hi; exact qEr fun j hj => by rw [show j = 0 by omega]; exact L.zer
 ·rw [show 1 - i = 0 by omega]; exact lo_0 _ _
theorem qFx (m : Int) : lo m 1 (ad xP yP) := fun i => by
 by_cases hi : i = 0
 ·subst hi
  exact qEr fun j hj => by
   rw [show j = 0 by omega]
   show xP 0 0 + yP 0 0 = 0
   rw [qD_, qDY]; rfl
 ·rw [show 1 - i = 0 by omega]; exact lo_0 _ _
theorem qFM {m : Int} {n : Nat} {F : Nat → Nat → Int} (L : Lw m n F) : eqv m 2 F (ad xP yP) := by
 have h2 := L.two
 refine qAJ.2 fun i j h => ?_
 show _ = (xP i j + yP i j) % m
 rw [qD_, qDY]
 obtain ⟨rfl, rfl⟩ | ⟨rfl, rfl⟩ | ⟨rfl, rfl⟩ : (i = 0 ∧ j = 0) ∨ (i = 1 ∧ j = 0) ∨ (i = 0 ∧ j = 1) := Oo
 ·rw [L.zer]; rfl
 ·rw [L.un 1 Oo]; rfl
 ·rw [L.sy 0 1 Oo, L.un 1 Oo]; rfl
theorem qIJ (a b : Nat) : (pw (ad xP yP) (a + b) : Nat → Nat → Int) a b = bin (a + b) a := by
 rw [qI3, qBA, qBA]
 rw [qAC (g := fun i => if i = a then bin (a + b) a else zz) fun i hi => ?_, qHb Oo]
 rw [qC1, qC1, show pw xP i = onx (pw xS i) from (qES xS i).symm, show pw yP (a + b - i) = ony (pw xS (a + b - i)) from (qEZ xS _).symm, qGm, qD9, qD9]
 show bin (a + b) i * (mon i 1 a * mon (a + b - i) 1 b) = if i = a then bin (a + b) a else 0
 unfold mon
 by_cases h : i = a
 ·subst h; rw [if_pos rfl, if_pos Oo, if_pos rfl]; omega
 ·rw [if_neg (show ¬ a = i by omega), if_neg h]; simp
theorem qKf {m : Int} {n : Nat} {F : Nat → Nat → Int} (L : Lw m n F) (a b : Nat) : (pw F (a + b) : Nat → Nat → Int) a b % m = bin (a + b) a % m := by
 rw [← qIJ]
 exact qAJ.1 (qGR (qFI L) (qFx m) (qFM L) (a + b)) a b Oo
theorem qIg {m : Int} {n : Nat} {F : Nat → Nat → Int} (L : Lw m n F) {i a b : Nat} (h : a + b < i) : (pw F i : Nat → Nat → Int) a b % m = 0 % m :=
 qAJ.1 (qAo (qAu (qFI L) i)) a b h
theorem qJ6 {m : Int} {n : Nat} {F G : Nat → Nat → Int} (LF : Lw m (n + 1) F) (LG : Lw m (n + 1) G) (he : ∀ i j, i + j < n → F i j % m = G i j % m) (u v : Nat → Int) {r a b : Nat} (hr : 1 ≤ r) (hn : a + b + r = n) (h1 : ∀ i, i + r < n → u i % m = v i % m) :
  sm (n + 1) (fun i => v i * (pw G i : Nat → Nat → Int) a b) % m = (sm (n + 1) (fun i => u i * (pw F i : Nat → Nat → Int) a b) + (v (a + b) - u (a + b)) * bin (a + b) a) % m := by
 have e : sm (n + 1) (fun i => u i * (pw F i : Nat → Nat → Int) a b) + (v (a + b) - u (a + b)) * bin (a + b) a = sm (n + 1) (fun i => u i * (pw F i : Nat → Nat → Int) a b + if i = a + b then (v (a + b) - u (a + b)) * bin (a + b) a else 0) := by
  have h := qDO (n + 1) (fun i => u i * (pw F i : Nat → Nat → Int) a b) (fun i => if i = a + b then (v (a + b) - u (a + b)) * bin (a + b) a else zz); rw [qHb (show a + b < n + 1 by omega)] at h; exact h.symm
 rw [e, ← qBB, ← qBB]
 refine qCI fun i hi => ?_
 by_cases h : i + r < n
 ·rw [if_neg Oo, Int.add_zero]; refine qAd (h1 i h).symm ?_; exact (qAJ.1 (qDH (qAJ.2 he) i) a b Oo).symm
 ·by_cases h' : i = a + b
  ·subst h'; rw [if_pos rfl]; have e1 : (v (a + b) * (pw G (a + b) : Nat → Nat → Int) a b) % m = (v (a + b) * bin (a + b) a) % m := qAd rfl (qKf LG a b); have e2 : (u (a + b) * (pw F (a + b) : Nat → Nat → Int) a b) % m = (u (a + b) * bin (a + b) a) % m := qAd rfl (qKf LF a b); rw [e1, Int.add_emod, e2, ← Int.add_emod, ← Int.add_mul]
   congr 2; omega
  ·rw [if_neg h', Int.add_zero]; have e1 := qAd (rfl : v i % m = v i % m) (qIg LG (show a + b < i by omega)); have e2 := qAd (rfl : u i % m = u i % m) (qIg LF (show a + b < i by omega)); rw [e1, e2, Int.mul_zero, Int.mul_zero]
theorem qFi {m a b : Int} (h : a % m = b % m) : m ∣ a - b := Int.dvd_of_emod_eq_zero (Int.emod_eq_emod_iff_emod_sub_eq_zero.1 h)
theorem qKu {m a b : Int} (h : m ∣ a - b) : a % m = b % m := Int.emod_eq_emod_iff_emod_sub_eq_zero.2 (Int.emod_eq_zero_of_dvd h)
theorem coc_of {m : Int} {n : Nat} {F G : Nat → Nat → Int} (LF : Lw m (n + 1) F) (LG : Lw m (n + 1) G) (he : ∀ i j, i + j < n → F i j % m = G i j % m) : Coc m n (fun i => G i (n - i) - F i (n - i)) := by
 constructor
 ·intro i h1 h2; have a := LG.sy i (n - i) Oo; have b := LF.sy i (n - i) Oo
  show m ∣ G i (n - i) - F i (n - i) - (G (n - i) (n - (n - i)) - F (n - i) (n - (n - i)))
  rw [show n - (n - i) = i by omega]; have d := Int.dvd_sub (qFi a) (qFi b)
  rwa [show G i (n - i) - G (n - i) i - (F i (n - i) - F (n - i) i) = G i (n - i) - F i (n - i) - (G (n - i) i - F (n - i) i) by omega] at d
 ·intro p q k hp hq hk hn; have a := LG.as p q k Oo; have b := LF.as p q k Oo; rw [qJ6 LF LG he (fun i => F i k) (fun i => G i k) (r := k) hk Oo (fun i hi => he i k hi), qJ6 LF LG he (fun i => F p i) (fun i => G p i) (r := p) (a := q) (b := k) hp Oo (fun i hi => he p i Oo)] at a
  show m ∣ bin (p + q) p * (G (p + q) (n - (p + q)) - F (p + q) (n - (p + q))) - bin (q + k) q * (G p (n - p) - F p (n - p))
  rw [show n - (p + q) = k by omega, show n - p = q + k by omega]; have d := Int.dvd_sub (qFi a) (qFi b); rw [Int.mul_comm (bin (p + q) p), Int.mul_comm (bin (q + k) q)]; generalize (G (p + q) k - F (p + q) k) * bin (p + q) p = X at d ⊢; generalize (G p (q + k) - F p (q + k)) * bin (q + k) q = Y at d ⊢; generalize sm (n + 1) (fun i => F i k * (pw F i : Nat → Nat → Int) p q) = A at d; generalize sm (n + 1) (fun j => F p j * (pw F j : Nat → Nat → Int) q k) = B at d
  rwa [show A + X - (B + Y) - (A - B) = X - Y by omega] at d
theorem qN7 {m : Int} {n : Nat} {F G : Nat → Nat → Int} (h2 : 2 ≤ n) (hn : n ≤ 10) (LF : Lw m (n + 1) F) (LG : Lw m (n + 1) G) (he : ∀ i j, i + j < n → F i j % m = G i j % m) :
  ∃ x, ∀ i, i ≤ n → (G i (n - i) - F i (n - i)) % m = x * laz n i % m := by
 obtain ⟨x, hx⟩ := coc_ex h2 hn (coc_of LF LG he)
 refine ⟨x, fun i hi => ?_⟩
 by_cases h0 : 1 ≤ i ∧ i < n
 ·have := hx i h0.1 h0.2; exact qKu this
 ·unfold laz; rw [if_neg h0, Int.mul_zero]; obtain rfl | rfl : i = 0 ∨ i = n := Oo
  ·have a := LG.sy 0 n Oo; have b := LF.sy 0 n Oo; have a' := LG.un n Oo; have b' := LF.un n Oo; rw [Nat.sub_zero, Int.sub_emod, a, b, a', b', ← Int.sub_emod, Int.sub_self]
  ·have a' := LG.un i Oo; have b' := LF.un i Oo; rw [Nat.sub_self, Int.sub_emod, a', b', ← Int.sub_emod, Int.sub_self]
end
end Go.Proofs.YtfpphfjlpgefaaaGreat
