/- Lemmas of InvL. -/
import Derived.Test.YtmmneicblcjkjaaQPut
import Derived.Test.YtmmneicblcjkjaaQG5
import Derived.Test.YtmmneicblcjkjaaQG1
set_option linter.unusedSimpArgs false
set_option linter.unusedVariables false
namespace Go.Proofs.Ytmmneicblcjkjaa
open Go.RowKit

set_option maxHeartbeats 1000000 in
set_option maxRecDepth 100000 in
theorem variable_c (m d : Int) (n : Nat) (w : World) (hd : d + 1 = n) (h2 : 2 ≤ n) (hn : n ≤ 1048576) :
    Calls Try.prog 54 #[.int .i64 m, .int .i64 d] w fun e w' => SVEnd w w' m (varL n) e := by
  go_enter Try.func54, Try.ntmps54
  go_wp2_with fail
  have R0 := RB2.mk1 w (.int .i64 0) (.slice none 0 0) 51
  have B0 : Below w.heap.size w (w.alloc (.cells #[.int .i64 0, .slice none 0 0] 51)) := (by (repeat (first | exact Below.refl _ _ | (refine Below.setCell ?_ (by first | (simp; done) | (simp; omega) | omega) _) | (refine Below.alloc ?_ (by first | (simp; done) | (simp; omega) | omega) _) | (refine below_drewN ?_ _) | (refine Below.drew ?_))))
  generalize w.alloc (.cells #[.int .i64 0, .slice none 0 0] 51) = w0 at R0 B0 ⊢
  have hzl : w.heap.size < w0.heap.size := R0.1.lt
  go_wp2_with fail
  refine (zero_c m d n _ hd hn).mono ?_
  rintro e w1 ⟨vz, rfl, how, hb⟩
  obtain ⟨oz, cz, rfl⟩ := how.shapeN (n := n) (by simp)
  obtain ⟨g, rfl, hgl, hgl'⟩ := how.row (by omega)
  (have R1 := R0.below hb (Nat.le_refl _); have B1 := B0.trans (hb.mono B0.size))
  have hb1 := hb.size
  have lR := R1.1.lt
  have hc0 := how.cell (k := 1) (rep_get n 1 0 (by omega))
  have hf0 := how.fz 1
  have Hn := Lib.hid how
  clear how
  have i1 : 1 < n := by omega
  have i2 : (1 : Int) < (n : Int) := by omega
  have hgn : g ≠ w1.heap.size := by omega
  have hgr : g ≠ w.heap.size := by omega
  obtain ⟨⟨r0, r1⟩, rf⟩ := id R1
  go_wp2
  refine bodyPost_ret (v := .agg #[.int .i64 m, .slice (some ⟨g, 0, none⟩) n cz]) (by simp [results, Try.results54, go_sem, r0, r1, lR, hgn, hgr]) rfl ⟨_, rfl, ?_, ?_⟩
  · exact ((((Hn.out.put 1 1).low (by first | (simp; done) | (simp; omega) | omega) _).low (by first | (simp; done) | (simp; omega) | omega) _).alloc _).mono (by first | (simp; done) | (simp; omega) | omega)
  · (repeat (first | exact Below.refl _ _ | (refine Below.setCell ?_ (by first | (simp; done) | (simp; omega) | omega) _) | (refine Below.alloc ?_ (by first | (simp; done) | (simp; omega) | omega) _) | (refine below_drewN ?_ _) | (refine Below.drew ?_) | (refine Below.trans ?_ (Below.mono B1 (by first | (simp; done) | (simp; omega) | omega)))))

end Go.Proofs.Ytmmneicblcjkjaa
