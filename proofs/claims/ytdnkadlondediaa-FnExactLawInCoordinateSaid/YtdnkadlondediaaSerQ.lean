/- Compositions of series: the reference, and the functions that are called. -/
import Derived.Test.YtdnkadlondediaaSerO
set_option linter.unusedSimpArgs false
set_option linter.unusedVariables false
namespace Go.Proofs.Ytdnkadlondediaa
open Go.RowKit

theorem horn_take {m : Int} {n : Nat} {f a : List Int} {k : Nat} (hk : k < a.length) : horn m n f (a.drop k) = addc m (at0 a k) (timesL m n (horn m n f (a.drop (k + 1))) f) := horn_drop (some_at0 hk)

set_option maxHeartbeats 2000000 in
set_option maxRecDepth 100000 in
theorem l02Compose_c (m d : Int) (n : Nat) (v u : Value) (xs fs : List Int) (w : World) (hd : d = (n : Int) - 1) (hv : RdI w v xs) (hu : RdI w u fs) (h1 : 1 ≤ n) (hl : 1 ≤ xs.length) (hn : n ≤ 1048576) (hm : 2 ≤ m) (hm' : m ≤ 10000)
    (hx : ∀ x ∈ xs, 0 ≤ x ∧ x < m) (hf : ∀ x ∈ fs, 0 ≤ x ∧ x < m) :
    Calls Try.prog 66 #[.int .i64 m, v, u, .int .i64 d] w fun e w' => ∃ v', e = .returned v' ∧ OwI w' w.heap.size v' (horn m n fs (xs.take n)) ∧ Below w.heap.size w w' := by
  subst hd
  obtain ⟨o, c, rfl, hmx, -⟩ := id hv
  obtain ⟨o', c', rfl, hmy, -⟩ := id hu
  have hml := hmx.1
  unfold maxLen at hmx hmy
  have m0 : (m == 0) = false := by simp; omega
  have m1 : ¬ m = 0 := by omega
  obtain ⟨bx, fx, rfl, -⟩ := hv.cells hl
  have hls : (xs.take n).length = min n xs.length := List.length_take
  have HR := Lib.hid (show ∀ k, k < (xs.take n).length → at0 (xs.take n) k = at0 xs k from fun k hk => by
    unfold at0 List.getD; rw [List.getElem?_take, if_pos (by omega)])
  generalize xs.take n = zs at hls HR ⊢
  go_enter Try.func66, Try.ntmps66
  go_wp2_with (at_make; refine mkI _ rfl _ _ rfl _ _ _ n rfl rfl (by omega) (by omega) ?_; intro w1 hown hb hs1)
  all_goals
    clear hs1
    go_loopw [9, 10] (fun s i wr => ∃ (j : Nat) (ov : Option Addr) (cv : Nat), j ≤ zs.length ∧ i = .int .i64 ((j : Int) - 1) ∧ s = .slice ov n cv ∧ OwI wr w.heap.size (.slice ov n cv) (horn m n fs (zs.drop j)) ∧ Below w.heap.size w wr) (fun _ i _ => ((intOf i) + 1).toNat)
    case atStart => first | exact ⟨n, _, _, by omega, rfl, rfl, by rw [List.drop_of_length_le (by omega)]; exact hown, hb⟩ | exact ⟨xs.length, _, _, by omega, rfl, rfl, by rw [List.drop_of_length_le (by omega)]; exact hown, hb⟩
    case round =>
      obtain ⟨j, ov, cv, hj, rfl, rfl, hO, hB⟩ := hrel
      by_cases hlt : 0 < j
      · obtain ⟨k, rfl⟩ : ∃ k, j = k + 1 := ⟨j - 1, by omega⟩
        have ek : (((k + 1 : Nat) : Int)) - 1 = (k : Int) := by omega
        rw [ek]
        clear ek
        have HS := Lib.hid (horn_take (m := m) (n := n) (f := fs) (a := zs) (k := k) (by omega))
        rw [HR.out k (by omega)] at HS
        have HLl := Lib.hid (horn_len m n fs (zs.drop (k + 1)))
        have HRl := Lib.hid (horn_range (m := m) (show 0 < m by omega) (n := n) (f := fs) (cs := zs.drop (k + 1)))
        generalize horn m n fs (zs.drop (k + 1)) = l at hO HS HLl HRl
        have hkx := at0_range (by omega) hx k
        have i0 : (0 : Int) ≤ (k : Int) := by omega
        have i1 : (k : Int) < (xs.length : Int) := by omega
        have i2 : k < xs.length := by omega
        have n0 : 0 < n := h1
        have hBs := hB.size
        go_wp2_with (go_at_call 124; refine (l02Times_c m _ n _ _ l fs _ rfl hO.rd (hu.below hB (Nat.le_refl _)) h1 hn hm (by omega) HRl.out hf).mono ?_; rintro e w2 ⟨vt, rfl, how, hb2⟩; obtain ⟨ot, ct, rfl⟩ := how.shapeN (n := n) (timesL_len _ _ _ _))
        obtain ⟨g, rfl, hgl, hgl'⟩ := how.row h1
        have B2 := hB.trans (hb2.mono hBs)
        have cx := (hv.below B2 (Nat.le_refl _)).cell0 (some_at0 i2)
        have hT := at0_range (by omega) (timesL_range (m := m) (by omega) (n := n) (a := l) (b := fs)) 0
        have hc0 := how.cell (k := 0) (some_at0 (by rw [timesL_len]; omega))
        have hf0 := how.fz 0
        have hMod := mod_lt' (a := at0 (timesL m n l fs) 0 + at0 xs k) (show 0 < m by omega)
        have Hn := Lib.hid how
        clear how
        go_wp2_with fail
        have e1 : IntKind.i64.wrap (at0 (timesL m n l fs) 0 + at0 xs k) = at0 (timesL m n l fs) 0 + at0 xs k := IntWalk.i64_in _ (by omega)
        have e2 : (at0 (timesL m n l fs) 0 + at0 xs k).tmod m = (at0 (timesL m n l fs) 0 + at0 xs k) % m := Int.tmod_eq_emod_of_nonneg (by omega)
        go_still_tail 12, (by kernel_rfl)
        change wpList _ _ _ _ _ w2.drew
        go_wp2
        have h2 := OwI.put Hn.out 0 ((at0 (timesL m n l fs) 0 + at0 xs k) % m)
        rw [show (timesL m n l fs).set 0 ((at0 (timesL m n l fs) 0 + at0 xs k) % m) = addc m (at0 xs k) (timesL m n l fs) from rfl, ← HS.out] at h2
        exact ⟨⟨k, _, _, by omega, by go_num, rfl, h2.mono hBs, (below_put B2 (by omega) _).drew⟩, by simp [intOf]⟩
      · obtain rfl : j = 0 := by omega
        rw [List.drop_zero] at hO
        go_wp2
        go_ret
        exact ⟨_, rfl, hO, hB⟩

def compR (m : Int) (xs : List Int) (n : Int) (ys : List Int) : SR := if twoS m xs n ys = 0 then (if curB n ys then ⟨m, horn m xs.length ys xs, 0⟩ else SR.bad 5) else SR.bad (twoS m xs n ys)



end Go.Proofs.Ytdnkadlondediaa
