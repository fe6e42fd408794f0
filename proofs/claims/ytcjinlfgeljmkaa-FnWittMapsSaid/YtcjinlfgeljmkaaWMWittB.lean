/- Lemmas of WittB. -/
import Derived.Test.YtcjinlfgeljmkaaWMWittA
import Derived.Test.YtcjinlfgeljmkaaWMCopy
import Derived.Deep.RegionHeld3
set_option linter.unusedSimpArgs false
set_option linter.unusedVariables false
namespace Go.Proofs.Ytcjinlfgeljmkaa
open Go.RowKit

structure WR where
  p : Int
  m : Int
  xs : List Int
  code : Int

def WR.bad (c : Int) : WR := ⟨0, 0, [], c⟩

def WEnd (w w' : World) (r : WR) (e : Ending) : Prop :=
  ∃ v', e = .returned (.tuple #[.agg #[.int .i64 r.p, .int .i64 r.m, v'], .int .i64 r.code]) ∧ OwI w' w.heap.size v' r.xs ∧ Below w.heap.size w w' ∧ r.xs.length ≤ 1048576

def VEnd (w w' : World) (p m : Int) (xs : List Int) (e : Ending) : Prop :=
  ∃ v', e = .returned (.agg #[.int .i64 p, .int .i64 m, v']) ∧ OwI w' w.heap.size v' xs ∧ Below w.heap.size w w'

def reprL (n : Nat) (c : Int) : List Int := (List.replicate n 0).set 0 c
def reprR (p m n c : Int) : WR := if shapeB p m n && inB c 0 (m - 1) then ⟨p, m, reprL n.toNat c, 0⟩ else WR.bad 2

set_option maxHeartbeats 400000 in
set_option maxRecDepth 100000 in
theorem representative_c (p m c : Int) (n : Nat) (w : World) (hn : 1 ≤ n) (hn' : n ≤ 4) :
    Calls Try.prog 189 #[.int .i64 p, .int .i64 m, .int .i64 n, .int .i64 c] w fun e w' => VEnd w w' p m (reprL n c) e := by
  go_enter Try.func189, Try.ntmps189
  go_wp2_with (at_make; go_loud (refine mkI _ rfl _ _ rfl _ _ _ n rfl rfl rfl (by omega) ?_; intro w1 hown hb hs1; simp at hown hs1; have hc0 := hown.cell (rep_get n 0 0 (by omega)); have hf0 := hown.fz 0; obtain ⟨hcc, hff⟩ := bcell hb; have hz : w.heap.size + 1 < w1.heap.size := (by omega); have hz0 : w.heap.size < w1.heap.size := (by omega); have Hown := Lib.hid hown; clear hown; have Hs1 := Lib.hid hs1; clear hs1))
  refine bodyPost_ret (v := .agg #[.int .i64 p, .int .i64 m, .slice (some ⟨w.heap.size + 1, 0, none⟩) n n]) (by simp [results, Try.results189, go_sem, hcc, hz, hz0]) rfl ⟨_, rfl, ?_, ?_⟩
  · exact (((((Hown.out.put 0 c).low (by first | (simp; done) | (simp; omega) | omega) _).low (by first | (simp; done) | (simp; omega) | omega) _).low (by first | (simp; done) | (simp; omega) | omega) _).alloc _).mono (by first | (simp; done) | (simp; omega) | omega)
  · (repeat (first | exact Below.refl _ _ | (refine Below.setCell ?_ (by first | (simp; done) | (simp; omega) | omega) _) | (refine Below.alloc ?_ (by first | (simp; done) | (simp; omega) | omega) _) | (refine below_drewN ?_ _) | (refine Below.drew ?_) | (refine Below.trans ?_ (Below.mono hb (by first | (simp; done) | (simp; omega) | omega)))))

set_option maxHeartbeats 400000 in
set_option maxRecDepth 100000 in
theorem RepresentativeOf_c (p m n c : Int) (w : World) :
    Calls Try.prog 81 #[.int .i64 p, .int .i64 m, .int .i64 n, .int .i64 c] w fun e w' => WEnd w w' (reprR p m n c) e := by
  cases hs : shapeB p m n
  · have hR : reprR p m n c = WR.bad 2 := by simp [reprR, hs]
    rw [hR]
    go_enter Try.func81, Try.ntmps81
    go_wp2_with (go_at_call 176; refine (isShape_c _ _ _ _).mono ?_; rw [hs]; rintro e w' ⟨rfl, rfl⟩)
    exact bodyPost_ret (v := .tuple #[.agg #[.int .i64 0, .int .i64 0, .slice none 0 0], .int .i64 2]) (by simp [results, Try.results81, go_sem]) rfl ⟨_, rfl, OwI.nil _ _, (by (repeat (first | exact Below.refl _ _ | (refine Below.setCell ?_ (by first | (simp; done) | (simp; omega) | omega) _) | (refine Below.alloc ?_ (by first | (simp; done) | (simp; omega) | omega) _) | (refine below_drewN ?_ _) | (refine Below.drew ?_)))), by simp [WR.bad]⟩
  · have hm := shape_m hs
    have hn := shape_n hs
    obtain ⟨n, rfl⟩ := Int.eq_ofNat_of_zero_le (show 0 ≤ n by omega)
    cases hq : inB c 0 (m - 1)
    · have hR : reprR p m n c = WR.bad 2 := by simp [reprR, hq]
      rw [hR]
      go_enter Try.func81, Try.ntmps81
      go_wp2_with (first | (go_at_call 176; refine (isShape_c _ _ _ _).mono ?_; rw [hs]; rintro e w' ⟨rfl, rfl⟩) | (go_at_call 111; refine (isNumber_c _ _ _ (by omega) (by omega)).mono ?_; rw [hq]; rintro e w' ⟨rfl, rfl⟩))
      exact bodyPost_ret (v := .tuple #[.agg #[.int .i64 0, .int .i64 0, .slice none 0 0], .int .i64 2]) (by simp [results, Try.results81, go_sem]) rfl ⟨_, rfl, OwI.nil _ _, (by (repeat (first | exact Below.refl _ _ | (refine Below.setCell ?_ (by first | (simp; done) | (simp; omega) | omega) _) | (refine Below.alloc ?_ (by first | (simp; done) | (simp; omega) | omega) _) | (refine below_drewN ?_ _) | (refine Below.drew ?_)))), by simp [WR.bad]⟩
    · have hR : reprR p m n c = ⟨p, m, reprL n c, 0⟩ := by simp [reprR, hq, hs]
      rw [hR]
      go_enter Try.func81, Try.ntmps81
      go_wp2_with (first | (go_at_call 176; refine (isShape_c _ _ _ _).mono ?_; rw [hs]; rintro e w' ⟨rfl, rfl⟩) | (go_at_call 111; refine (isNumber_c _ _ _ (by omega) (by omega)).mono ?_; rw [hq]; rintro e w' ⟨rfl, rfl⟩))
      refine (representative_c p m c n _ (by omega) (by omega)).mono ?_
      rintro e w1 ⟨v1, rfl, how, hb⟩
      obtain ⟨o1, c1, rfl⟩ := how.shape
      (obtain ⟨hc_w1, hf_w1⟩ := bcell hb; have hz_w1_0 : w.heap.size < w1.heap.size := (by have hq := Below.size hb; simp at hq; omega))
      go_wp2
      refine bodyPost_ret (v := .tuple #[.agg #[.int .i64 p, .int .i64 m, .slice o1 (reprL n c).length c1], .int .i64 0]) (by simp [results, Try.results81, go_sem, hc_w1, hz_w1_0]) rfl ⟨_, rfl, ?_, ?_, by simp [reprL]; omega⟩
      · exact (((how.low (by first | (simp; done) | (simp; omega) | omega) _).low (by first | (simp; done) | (simp; omega) | omega) _).low (by first | (simp; done) | (simp; omega) | omega) _).mono (by first | (simp; done) | (simp; omega) | omega)
      · (repeat (first | exact Below.refl _ _ | (refine Below.setCell ?_ (by first | (simp; done) | (simp; omega) | omega) _) | (refine Below.alloc ?_ (by first | (simp; done) | (simp; omega) | omega) _) | (refine below_drewN ?_ _) | (refine Below.drew ?_) | (refine Below.trans ?_ (Below.mono hb (by first | (simp; done) | (simp; omega) | omega)))))

set_option maxHeartbeats 400000 in
set_option maxRecDepth 100000 in
theorem sRepresentativeOf_c (p m n c : Int) (w : World) :
    Calls Try.prog 82 #[.int .i64 p, .int .i64 m, .int .i64 n, .int .i64 c] w fun e w' => WEnd w w' (reprR p m n c) e := by
  cases hs : shapeB p m n
  · have hR : reprR p m n c = WR.bad 2 := by simp [reprR, hs]
    rw [hR]
    go_enter Try.func82, Try.ntmps82
    go_wp2_with (go_at_call 190; refine (l13Kind_c _ _ _ _).mono ?_; rw [hs]; rintro e w' ⟨rfl, rfl⟩)
    exact bodyPost_ret (v := .tuple #[.agg #[.int .i64 0, .int .i64 0, .slice none 0 0], .int .i64 2]) (by simp [results, Try.results82, go_sem]) rfl ⟨_, rfl, OwI.nil _ _, (by (repeat (first | exact Below.refl _ _ | (refine Below.setCell ?_ (by first | (simp; done) | (simp; omega) | omega) _) | (refine Below.alloc ?_ (by first | (simp; done) | (simp; omega) | omega) _) | (refine below_drewN ?_ _) | (refine Below.drew ?_)))), by simp [WR.bad]⟩
  · have hm := shape_m hs
    have hn := shape_n hs
    obtain ⟨n, rfl⟩ := Int.eq_ofNat_of_zero_le (show 0 ≤ n by omega)
    cases hq : inB c 0 (m - 1)
    · have hR : reprR p m n c = WR.bad 2 := by simp [reprR, hq]
      rw [hR]
      go_enter Try.func82, Try.ntmps82
      go_wp2_with (first | (go_at_call 190; refine (l13Kind_c _ _ _ _).mono ?_; rw [hs]; rintro e w' ⟨rfl, rfl⟩) | (go_at_call 141; refine (l01In_c _ _ _ _).mono ?_; rw [hq]; rintro e w' ⟨rfl, rfl⟩))
      exact bodyPost_ret (v := .tuple #[.agg #[.int .i64 0, .int .i64 0, .slice none 0 0], .int .i64 2]) (by simp [results, Try.results82, go_sem]) rfl ⟨_, rfl, OwI.nil _ _, (by (repeat (first | exact Below.refl _ _ | (refine Below.setCell ?_ (by first | (simp; done) | (simp; omega) | omega) _) | (refine Below.alloc ?_ (by first | (simp; done) | (simp; omega) | omega) _) | (refine below_drewN ?_ _) | (refine Below.drew ?_)))), by simp [WR.bad]⟩
    · have hR : reprR p m n c = ⟨p, m, reprL n c, 0⟩ := by simp [reprR, hq, hs]
      rw [hR]
      go_enter Try.func82, Try.ntmps82
      go_wp2_with (first | (go_at_call 190; refine (l13Kind_c _ _ _ _).mono ?_; rw [hs]; rintro e w' ⟨rfl, rfl⟩) | (go_at_call 141; refine (l01In_c _ _ _ _).mono ?_; rw [hq]; rintro e w' ⟨rfl, rfl⟩) | (at_make; refine mkI _ rfl _ _ rfl _ _ _ n rfl rfl rfl (by omega) ?_; intro w1 hown hb hs1; simp at hown hs1; have hc0 := hown.cell (rep_get n 0 0 (by omega)); have hf0 := hown.fz 0; (obtain ⟨hc_w1, hf_w1⟩ := bcell hb; have hz_w1_0 : w.heap.size < w1.heap.size := (by have hq := Below.size hb; simp at hq; omega); have hz_w1_1 : w.heap.size + 1 < w1.heap.size := (by have hq := Below.size hb; simp at hq; omega)); have Hown := Lib.hid hown; clear hown; have Hs1 := Lib.hid hs1; clear hs1))
      refine bodyPost_ret (v := .tuple #[.agg #[.int .i64 p, .int .i64 m, .slice (some ⟨w.heap.size + 1, 0, none⟩) n n], .int .i64 0]) (by simp [results, Try.results82, go_sem, hc_w1, hz_w1_0]) rfl ⟨_, rfl, ?_, ?_, by simp [reprL]; omega⟩
      · exact ((((Hown.out.put 0 c).low (by first | (simp; done) | (simp; omega) | omega) _).low (by first | (simp; done) | (simp; omega) | omega) _).low (by first | (simp; done) | (simp; omega) | omega) _).mono (by first | (simp; done) | (simp; omega) | omega)
      · (repeat (first | exact Below.refl _ _ | (refine Below.setCell ?_ (by first | (simp; done) | (simp; omega) | omega) _) | (refine Below.alloc ?_ (by first | (simp; done) | (simp; omega) | omega) _) | (refine below_drewN ?_ _) | (refine Below.drew ?_) | (refine Below.trans ?_ (Below.mono hb (by first | (simp; done) | (simp; omega) | omega)))))

end Go.Proofs.Ytcjinlfgeljmkaa
