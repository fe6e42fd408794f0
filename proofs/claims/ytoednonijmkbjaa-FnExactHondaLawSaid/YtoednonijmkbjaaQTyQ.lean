/- Lemmas of TyQ. -/
import Derived.Test.YtoednonijmkbjaaQTyP
set_option linter.unusedSimpArgs false
set_option linter.unusedVariables false
namespace Go.Proofs.Ytoednonijmkbjaa
open Go.RowKit

set_option maxHeartbeats 2000000 in
set_option maxRecDepth 100000 in
theorem HondaLaw_bad (p h n : Int) (w : World) (hg : (primB p && inB h 1 3 && inB n 1 10) = false) :
    Calls Try.prog 7 #[.int .i64 p, .int .i64 h, .int .i64 n] w fun e w' => PEnd w w' ⟨0, [], 2⟩ e := by
  have R0 := RB2.mk1 w (.int .i64 0) (.slice none 0 0) 24
  have B0 : Below w.heap.size w (w.alloc (.cells #[.int .i64 0, .slice none 0 0] 24)) := (by (repeat (first | exact Below.refl _ _ | (refine Below.setCell ?_ (by first | (simp; done) | (simp; omega) | omega) _) | (refine Below.alloc ?_ (by first | (simp; done) | (simp; omega) | omega) _) | (refine below_drewN ?_ _) | (refine Below.drew ?_))))
  go_enter Try.func7, Try.ntmps7
  go_wp2_with fail
  generalize w.alloc (.cells #[.int .i64 0, .slice none 0 0] 24) = w0 at R0 B0 ⊢
  refine (isTypicalPrime_c p _).mono ?_
  rintro e w1 ⟨rfl, rfl⟩
  obtain ⟨⟨r0, r1⟩, rf⟩ := id R0
  generalize primB p = a at hg ⊢
  cases a
  · go_wp2
    exact bodyPost_ret (v := .tuple #[.agg #[.int .i64 0, .slice none 0 0], .int .i64 2]) (by simp [results, Try.results7, go_sem, r0, r1]) rfl ⟨_, rfl, OwS.nil _ _, (by (repeat (first | exact Below.refl _ _ | (refine Below.setCell ?_ (by first | (simp; done) | (simp; omega) | omega) _) | (refine Below.alloc ?_ (by first | (simp; done) | (simp; omega) | omega) _) | (refine below_drewN ?_ _) | (refine Below.drew ?_) | (refine Below.trans ?_ (Below.mono B0 (by first | (simp; done) | (simp; omega) | omega)))))), by simp [sizeT, numT]⟩
  · go_wp2_with fail
    refine (in_c h 1 3 _).mono ?_
    rintro e w1 ⟨rfl, rfl⟩
    generalize inB h 1 3 = b at hg ⊢
    cases b
    · go_wp2
      exact bodyPost_ret (v := .tuple #[.agg #[.int .i64 0, .slice none 0 0], .int .i64 2]) (by simp [results, Try.results7, go_sem, r0, r1]) rfl ⟨_, rfl, OwS.nil _ _, (by (repeat (first | exact Below.refl _ _ | (refine Below.setCell ?_ (by first | (simp; done) | (simp; omega) | omega) _) | (refine Below.alloc ?_ (by first | (simp; done) | (simp; omega) | omega) _) | (refine below_drewN ?_ _) | (refine Below.drew ?_) | (refine Below.trans ?_ (Below.mono B0 (by first | (simp; done) | (simp; omega) | omega)))))), by simp [sizeT, numT]⟩
    · go_wp2_with fail
      refine (in_c n 1 10 _).mono ?_
      rintro e w1 ⟨rfl, rfl⟩
      rw [show inB n 1 10 = false by simpa using hg]
      go_wp2
      exact bodyPost_ret (v := .tuple #[.agg #[.int .i64 0, .slice none 0 0], .int .i64 2]) (by simp [results, Try.results7, go_sem, r0, r1]) rfl ⟨_, rfl, OwS.nil _ _, (by (repeat (first | exact Below.refl _ _ | (refine Below.setCell ?_ (by first | (simp; done) | (simp; omega) | omega) _) | (refine Below.alloc ?_ (by first | (simp; done) | (simp; omega) | omega) _) | (refine below_drewN ?_ _) | (refine Below.drew ?_) | (refine Below.trans ?_ (Below.mono B0 (by first | (simp; done) | (simp; omega) | omega)))))), by simp [sizeT, numT]⟩
set_option maxHeartbeats 2000000 in
set_option maxRecDepth 100000 in
theorem sHondaLaw_bad (p h n : Int) (w : World) (hg : (primB p && inB h 1 3 && inB n 1 10) = false) :
    Calls Try.prog 6 #[.int .i64 p, .int .i64 h, .int .i64 n] w fun e w' => PEnd w w' ⟨0, [], 2⟩ e := by
  have R0 := RB2.mk1 w (.int .i64 0) (.slice none 0 0) 24
  have B0 : Below w.heap.size w (w.alloc (.cells #[.int .i64 0, .slice none 0 0] 24)) := (by (repeat (first | exact Below.refl _ _ | (refine Below.setCell ?_ (by first | (simp; done) | (simp; omega) | omega) _) | (refine Below.alloc ?_ (by first | (simp; done) | (simp; omega) | omega) _) | (refine below_drewN ?_ _) | (refine Below.drew ?_))))
  go_enter Try.func6, Try.ntmps6
  go_wp2_with fail
  generalize w.alloc (.cells #[.int .i64 0, .slice none 0 0] 24) = w0 at R0 B0 ⊢
  refine (l09Prime_c p _).mono ?_
  rintro e w1 ⟨rfl, rfl⟩
  obtain ⟨⟨r0, r1⟩, rf⟩ := id R0
  generalize primB p = a at hg ⊢
  cases a
  · go_wp2
    exact bodyPost_ret (v := .tuple #[.agg #[.int .i64 0, .slice none 0 0], .int .i64 2]) (by simp [results, Try.results6, go_sem, r0, r1]) rfl ⟨_, rfl, OwS.nil _ _, (by (repeat (first | exact Below.refl _ _ | (refine Below.setCell ?_ (by first | (simp; done) | (simp; omega) | omega) _) | (refine Below.alloc ?_ (by first | (simp; done) | (simp; omega) | omega) _) | (refine below_drewN ?_ _) | (refine Below.drew ?_) | (refine Below.trans ?_ (Below.mono B0 (by first | (simp; done) | (simp; omega) | omega)))))), by simp [sizeT, numT]⟩
  · go_wp2_with fail
    refine (l01In_c h 1 3 _).mono ?_
    rintro e w1 ⟨rfl, rfl⟩
    generalize inB h 1 3 = b at hg ⊢
    cases b
    · go_wp2
      exact bodyPost_ret (v := .tuple #[.agg #[.int .i64 0, .slice none 0 0], .int .i64 2]) (by simp [results, Try.results6, go_sem, r0, r1]) rfl ⟨_, rfl, OwS.nil _ _, (by (repeat (first | exact Below.refl _ _ | (refine Below.setCell ?_ (by first | (simp; done) | (simp; omega) | omega) _) | (refine Below.alloc ?_ (by first | (simp; done) | (simp; omega) | omega) _) | (refine below_drewN ?_ _) | (refine Below.drew ?_) | (refine Below.trans ?_ (Below.mono B0 (by first | (simp; done) | (simp; omega) | omega)))))), by simp [sizeT, numT]⟩
    · go_wp2_with fail
      refine (l01In_c n 1 10 _).mono ?_
      rintro e w1 ⟨rfl, rfl⟩
      rw [show inB n 1 10 = false by simpa using hg]
      go_wp2
      exact bodyPost_ret (v := .tuple #[.agg #[.int .i64 0, .slice none 0 0], .int .i64 2]) (by simp [results, Try.results6, go_sem, r0, r1]) rfl ⟨_, rfl, OwS.nil _ _, (by (repeat (first | exact Below.refl _ _ | (refine Below.setCell ?_ (by first | (simp; done) | (simp; omega) | omega) _) | (refine Below.alloc ?_ (by first | (simp; done) | (simp; omega) | omega) _) | (refine below_drewN ?_ _) | (refine Below.drew ?_) | (refine Below.trans ?_ (Below.mono B0 (by first | (simp; done) | (simp; omega) | omega)))))), by simp [sizeT, numT]⟩
end Go.Proofs.Ytoednonijmkbjaa
