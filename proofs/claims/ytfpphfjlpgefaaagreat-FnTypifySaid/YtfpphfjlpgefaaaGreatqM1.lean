/- Lemmas. -/
import Derived.Test.YtfpphfjlpgefaaaGreatqG2
import Derived.StillTailTactics
set_option maxHeartbeats 1000000
set_option maxRecDepth 100000
set_option linter.unusedSimpArgs false
set_option linter.unusedVariables false
namespace Go.Proofs.YtfpphfjlpgefaaaGreat
open Go.RowKit

def RdB (w : World) (B n : Nat) (v : Value) : Prop :=
 ∃ o c, v = .slice o n c ∧ (n ≤ maxLen ∧ n ≤ c ∧ (o = none → c = 0)) ∧ ∀ k, k < n → ∃ b off x, b < B ∧ o = some ⟨b, off, none⟩ ∧ w.cell? ⟨b, off + k, none⟩ = some (.int .u8 x) ∧ 0 ≤ x ∧ x < 256
theorem RdB.keep {w w' : World} {B n : Nat} {v : Value} (h : RdB w B n v) (hk : ∀ k, k < B → w'.heap[k]? = w.heap[k]?) : RdB w' B n v := by
 obtain ⟨o, c, e, hm, hc⟩ := h
 refine ⟨o, c, e, hm, fun k hkn => ?_⟩
 obtain ⟨b, off, x, hb, ho, hcell, hx⟩ := hc k hkn
 exact ⟨b, off, x, hb, ho, (World.cell?_of_block (w := w) (a := ⟨b, off + k, none⟩) (hk b hb)).trans hcell, hx⟩
theorem RdB.mono {w : World} {B B' n : Nat} {v : Value} (h : RdB w B n v) (hB : B ≤ B') : RdB w B' n v := by
 obtain ⟨o, c, e, hm, hc⟩ := h
 refine ⟨o, c, e, hm, fun k hkn => ?_⟩
 obtain ⟨b, off, x, hb, r⟩ := hc k hkn
 exact ⟨b, off, x, Oo, r⟩
def Src (w : World) (B n b : Nat) : Prop := B ≤ b ∧ ∃ (v : Value) (i : Nat) (h : Int), RdB w B n v ∧ RB3 w b v (.int .i64 i) (.int .u64 h) ∧ i ≤ n
theorem Src.lt {w : World} {B n b : Nat} (h : Src w B n b) : b < w.heap.size := by
 obtain ⟨_, v, i, h, _, hr, _⟩ := h
 exact hr.1.lt
theorem RB3.set1 {w : World} {b : Nat} {x y z : Value} (h : RB3 w b x y z) (u : Value) : RB3 (w.setCell ⟨b, 1, none⟩ u) b x u z := by
 obtain ⟨⟨h0, h1, h2⟩, hf⟩ := h
 exact ⟨⟨(World.cell?_setCell_other w ⟨b, 1, none⟩ ⟨b, 0, none⟩ u (by simp)).trans h0, World.cell?_setCell_same _ _ _ h1, (World.cell?_setCell_other w ⟨b, 1, none⟩ ⟨b, 2, none⟩ u (by simp)).trans h2⟩, fun k => by rw [World.frozen?_setCell]; exact hf k⟩
theorem RB3.set2 {w : World} {b : Nat} {x y z : Value} (h : RB3 w b x y z) (u : Value) : RB3 (w.setCell ⟨b, 2, none⟩ u) b x y u := by
 obtain ⟨⟨h0, h1, h2⟩, hf⟩ := h
 exact ⟨⟨(World.cell?_setCell_other w ⟨b, 2, none⟩ ⟨b, 0, none⟩ u (by simp)).trans h0, (World.cell?_setCell_other w ⟨b, 2, none⟩ ⟨b, 1, none⟩ u (by simp)).trans h1, World.cell?_setCell_same _ _ _ h2⟩, fun k => by rw [World.frozen?_setCell]; exact hf k⟩
theorem RB3.drewN {w : World} {b : Nat} {x y z : Value} (h : RB3 w b x y z) (n : Nat) : RB3 (w.drewN n) b x y z := h
theorem and24 (E : Int) (h0 : 0 ≤ E) (h1 : E ≤ 18446744073709551615) : ∃ r : Int, bits BinOp.and IntKind.u64 E 16777215 = r ∧ 0 ≤ r ∧ r ≤ 16777215 := by
 have h := bits_and_u64_nat E.toNat 16777215 Oo Oo
 rw [Int.toNat_of_nonneg h0] at h
 exact ⟨_, h, Oo, by have := Nat.and_le_right (n := E.toNat) (m := 16777215); omega⟩

theorem qJg (B n b : Nat) (m : Int) (w : World) (hs : Src w B n b) :
  Calls Tryz.prog 38 #[.pointer (some ⟨b, 0, none⟩), .int .i64 m] w fun e w' => ∃ r, e = .returned (.int .i64 r) ∧ 0 ≤ r ∧ (0 < m → r < m) ∧ (m < 1 → r = 0) ∧ Src w' B n b ∧ Chg b (b + 1) w w' ∧ w'.heap.size = w.heap.size := by
 obtain ⟨hB, v, i, h, hv, hr, hi⟩ := hs
 obtain ⟨⟨c0, c1, c2⟩, cf⟩ := id hr
 by_cases hm : m < 1
 ·go_enter Tryz.func38, Tryz.ntmps38
  go_wp2; go_ret; exact ⟨0, rfl, Int.le_refl _, fun h => Oo, fun _ => rfl, ⟨hB, v, i, h, hv, hr, hi⟩, Chg.refl _ _ _, rfl⟩
 ·go_enter Tryz.func38, Tryz.ntmps38
  go_wp2_with fail
  generalize hH : IntKind.u64.wrap (IntKind.u64.wrap (h * 6364136223846793005) + 1442695040888963407) = H; have H0 : 0 ≤ H ∧ H ≤ 18446744073709551615 := by rw [← hH, IntKind.wrap_u64]; omega
  clear hH; obtain ⟨q, hq, q0, q1⟩ := and24 (H / 8589934592) Oo Oo; rw [hq, IntWalk.wrap64_in q Oo]; clear hq; have hr1 := hr.set2 (.int .u64 H); have hv1 : RdB (w.setCell ⟨b, 2, none⟩ (.int .u64 H)) B n v := hv.keep fun k hk => (qBx w b 2 _).block k (by have := hr.1.lt; omega) (fun e => by cases e; omega)
  have hC1 : Chg b (b + 1) w (w.setCell ⟨b, 2, none⟩ (.int .u64 H)) := Chg.of_grown (qBx w b 2 _) (fun k hk => by cases hk; omega); have hz1 : (w.setCell ⟨b, 2, none⟩ (.int .u64 H)).heap.size = w.heap.size := by simp
  clear c0 c1 c2 cf hr; generalize w.setCell ⟨b, 2, none⟩ (.int .u64 H) = w1 at hr1 hv1 hC1 hz1 ⊢; obtain ⟨⟨c0, c1, c2⟩, cf⟩ := id hr1; obtain ⟨o, c, rfl, hmx, hc⟩ := id hv1; have hml := hmx.1; unfold maxLen at hml
  by_cases hlt : i < n
  ·obtain ⟨bb, off, x, hbb, rfl, hcell, x0, x1⟩ := hc i hlt; have hi2 : (i : Int) < (n : Int) := Oo
   go_wp2_with fail
   go_quiet (fail)
   revert nq
   intro n1
   go_wp2_with fail
   go_quiet (fail)
   go_wp2; go_ret; have hrl := hr1.1.lt; refine ⟨(q + x) % m, rfl, Int.emod_nonneg _ Oo, fun _ => Int.emod_lt_of_pos _ Oo, fun h => Oo, ⟨hB, _, i + 1, H, hv1.keep fun k hk => ?_, ?_, Oo⟩, ?_, ?_⟩
   ·exact (qBx _ b 1 _).block k (by show k < w1.heap.size; omega) (fun e => by cases e; omega)
   ·exact ((hr1.drewN n1).drewN nq).set1 _
   ·have hb2 : Chg b (b + 1) w (w1.drewN (n1 + nq)) := hC1.trans (Chg.of_below (below_drewN (Below.refl _ _) _)); exact hb2.trans (Chg.of_grown (row := some b) (qBx (w1.drewN (n1 + nq)) b 1 (.int .i64 ((i : Int) + 1))) (fun k hk => by cases hk; omega))
   ·simp; exact hz1
  ·have hi2 : ¬ (i : Int) < (n : Int) := Oo
   go_wp2_with fail
   go_quiet (fail)
   go_wp2_with fail
   go_ret; exact ⟨q % m, rfl, Int.emod_nonneg _ Oo, fun _ => Int.emod_lt_of_pos _ Oo, fun h => Oo, ⟨hB, _, i, H, hv1.keep fun k hk => rfl, hr1.drewN _, hi⟩, hC1.trans (Chg.of_below (below_drewN (Below.refl _ _) _)), hz1⟩

theorem Src.below {w w' : World} {B n b : Nat} (h : Src w B n b) (hb : Below w.heap.size w w') (hB : B ≤ w.heap.size) : Src w' B n b := by
 obtain ⟨h1, v, i, k, hv, hr, hi⟩ := h
 exact ⟨h1, v, i, k, hv.keep fun j hj => hb.block j Oo, hr.below hb, hi⟩
theorem Src.chg {w w' : World} {B n b lo hi : Nat} (h : Src w B n b) (hc : Chg lo hi w w') (hB : B ≤ w.heap.size) (hlo : B ≤ lo) (hb : b < lo ∨ hi ≤ b) : Src w' B n b := by
 have hl := h.lt
 obtain ⟨h1, v, i, k, hv, hr, hi'⟩ := h
 refine ⟨h1, v, i, k, hv.keep fun j hj => hc.block j Oo (.inl Oo), ?_, hi'⟩
 have e := hc.block b hl hb
 obtain ⟨⟨c0, c1, c2⟩, cf⟩ := hr
 exact ⟨⟨(World.cell?_of_block (w := w) (a := ⟨b, 0, none⟩) e).trans c0, (World.cell?_of_block (w := w) (a := ⟨b, 1, none⟩) e).trans c1, (World.cell?_of_block (w := w) (a := ⟨b, 2, none⟩) e).trans c2⟩, fun k => (World.frozen?_of_block (w := w) (a := ⟨b, k, none⟩) e).trans (cf k)⟩

theorem qMZ (B n b : Nat) (v : Value) (xs : Li) (w : World) (hs : Src w B n b) (hv : RdI w v xs) (h1 : 1 ≤ xs.length) (hd : ∀ w', Chg b (b + 1) w w' → RdI w' v xs) :
  Calls Tryz.prog 74 #[.pointer (some ⟨b, 0, none⟩), v] w fun e w' => ∃ r, e = .returned (.int .i64 r) ∧ r ∈ xs ∧ Src w' B n b ∧ Chg b (b + 1) w w' ∧ w'.heap.size = w.heap.size := by
 obtain ⟨o, c, rfl, hmx, hc⟩ := id hv
 have hml := hmx.1
 unfold maxLen at hml
 clear hc
 go_enter Tryz.func74, Tryz.ntmps74
 go_wp2_with fail
 refine (qJg B n b _ w hs).mono ?_
 rintro e w1 ⟨r, rfl, r0, r1, r2, hs1, hc1, hz1⟩
 have r1 := r1 Oo
 clear r2
 obtain ⟨k, rfl⟩ : ∃ k : Nat, r = k := ⟨r.toNat, Oo⟩
 have hv1 := hd _ hc1
 obtain ⟨bb, fx, rfl, hcx⟩ := hv1.cells Oo
 have hk : k < xs.length := Oo
 have cx := hcx k _ (List.getElem?_eq_getElem hk)
 have r1' : (k : Int) < (xs.length : Int) := Oo
 go_wp2
 go_ret
 exact ⟨_, rfl, List.getElem_mem hk, hs1, hc1, hz1⟩

theorem qJz (B n : Nat) (v : Value) (w : World) (hv : RdB w B n v) (hB : B ≤ w.heap.size) :
  Calls Tryz.prog 35 #[v] w fun e w' => ∃ b, e = .returned (.pointer (some ⟨b, 0, none⟩)) ∧ Src w' w.heap.size n b ∧ Below w.heap.size w w' := by
 obtain ⟨o, c, rfl, hmx, hc⟩ := id hv
 have hml := hmx.1
 unfold maxLen at hml
 clear hc
 go_enter Tryz.func35, Tryz.ntmps35
 go_wp2_with fail
 go_loopw [4] (fun i wr => ∃ (k : Nat) (h : Int), k ≤ n ∧ i = .int .i64 k ∧ RB3 wr w.heap.size (.slice o n c) (.int .i64 0) (.int .u64 h) ∧ Below w.heap.size w wr) (fun i _ => n - (intOf i).toNat)
 case atStart => exact ⟨0, _, Nat.zero_le _, rfl, RB3.mk1 _ _ _ _ _, bZ⟩
 case round =>
  obtain ⟨k, h, hk, rfl, hR, hbr⟩ := hrel; have hvr := hv.keep (w' := wr) (fun j hj => hbr.block j Oo); obtain ⟨o', c', heq, _, hcx⟩ := id hvr; obtain ⟨rfl, rfl⟩ : o = o' ∧ c = c' := by simpa using heq
  clear heq; obtain ⟨⟨x0, x1, x2⟩, xf⟩ := id hR
  by_cases hlt : k < n ∧ k < 4096
  ·obtain ⟨bb, off, x, hbb, rfl, hcell, y0, y1⟩ := hcx k Oo; have i1 : (k : Int) < (n : Int) := Oo; have i2 : (k : Int) < 4096 := Oo; clear hcx
   go_wp2_with fail
   go_still_tail 15, kr
   change wpList _ _ _ _ _ wr.drew
   go_wp2; exact ⟨⟨k + 1, _, Oo, by go_num, hR.set2 _, Below.drew (qAL hbr (nl _) _)⟩, by simp [intOf]; omega⟩
  ·rcases Nat.lt_or_ge k n with h1 | h1
   ·first
    | (exfalso; omega)
    | (have i1 : (k : Int) < (n : Int) := Oo
       have i2 : ¬ (k : Int) < 4096 := Oo; go_wp2; go_ret; exact ⟨_, rfl, ⟨Nat.le_refl _, _, 0, h, hvr.mono hB, hR, Nat.zero_le _⟩, hbr⟩)
   ·have i1 : ¬ (k : Int) < (n : Int) := Oo; go_wp2; go_ret; exact ⟨_, rfl, ⟨Nat.le_refl _, _, 0, h, hvr.mono hB, hR, Nat.zero_le _⟩, hbr⟩

theorem qE3 (v u : Value) (xs ys : Li) (w : World) (hv : RdI w v xs) (hu : RdI w u ys) :
  Calls Tryz.prog 187 #[v, u] w fun e w' => e = .returned (.bool (qBv xs ys)) ∧ ∃ n, w' = w.drewN n := by
 obtain ⟨o, c, rfl, hm, hc⟩ := hv
 obtain ⟨o', c', rfl, hm', hc'⟩ := hu
 unfold maxLen at hm hm'
 by_cases hlen : xs.length = ys.length
 ·have hne : (((xs.length:Nat):Int) != ((ys.length:Nat):Int)) = false := by simp [hlen]
  have HL := dd hlen; clear hlen
  go_enter Tryz.func187, Tryz.ntmps187
  go_wp2
  go_loopw [5] (fun i wr => ∃ k : Nat, k ≤ xs.length ∧ i = .int .i64 k ∧ Hid (xs.take k = ys.take k) ∧ ∃ n, wr = w.drewN n) (fun i _ => xs.length - (intOf i).toNat)
  case atStart => exact ⟨0, Nat.zero_le _, rfl, dd rfl, 0, rfl⟩
  case round =>
   obtain ⟨k, hk, rfl, HT, n, rfl⟩ := hrel
   by_cases hlt : k < xs.length
   ·obtain ⟨b, off, rfl, hx⟩ := hc k (xs[k]) (by simp [hlt]); obtain ⟨b', off', rfl, hy⟩ := hc' k (ys[k]'(by have := HL.out; omega)) (by simp); have hlt' : k < ys.length := by have := HL.out; omega
    go_wp2
    go_quiet (fail)
    go_wp2
    ·have hne : xs[k] ≠ ys[k] := by have h : (xs[k] != ys[k]) = true := by assumption
                                    simpa using h
     go_ret; exact ⟨by rw [qI0 (k := k) (by simp) (by simp) hne]; rfl, n + nq, by simp⟩
    ·have he : ys[k] = xs[k] := by have h : (xs[k] != ys[k]) = false := by assumption
                                   simpa using Eq.symm (by simpa using h)
     exact ⟨⟨k + 1, Oo, by go_num, dd (qHA (x := xs[k]) (by simp) (by simp [← he]) HT.out), n + nq, rfl⟩, by simp [intOf]; omega⟩
   ·go_wp2; go_ret; exact ⟨by rw [qIE HL.out hlt HT.out]; rfl, n, rfl⟩
 ·have hne : (((xs.length:Nat):Int) != ((ys.length:Nat):Int)) = true := by simp; omega
  have HL := dd hlen; clear hlen
  go_enter Tryz.func187, Tryz.ntmps187
  go_wp2; go_ret; exact ⟨by rw [qGO (fun h => HL.out (by rw [h]))]; rfl, 0, rfl⟩
theorem qEo (v u : Value) (xs ys : Li) (w : World) (hv : RdI w v xs) (hu : RdI w u ys) :
  Calls Tryz.prog 9 #[v, u] w fun e w' => e = .returned (.bool (qBv xs ys)) ∧ ∃ n, w' = w.drewN n := by
 obtain ⟨o, c, rfl, hm, hc⟩ := hv
 obtain ⟨o', c', rfl, hm', hc'⟩ := hu
 unfold maxLen at hm hm'
 by_cases hlen : xs.length = ys.length
 ·have hne : (((xs.length:Nat):Int) != ((ys.length:Nat):Int)) = false := by simp [hlen]
  have HL := dd hlen; clear hlen
  go_enter Tryz.func9, Tryz.ntmps9
  go_wp2
  go_loopw [5] (fun i wr => ∃ k : Nat, k ≤ xs.length ∧ i = .int .i64 k ∧ Hid (xs.take k = ys.take k) ∧ ∃ n, wr = w.drewN n) (fun i _ => xs.length - (intOf i).toNat)
  case atStart => exact ⟨0, Nat.zero_le _, rfl, dd rfl, 0, rfl⟩
  case round =>
   obtain ⟨k, hk, rfl, HT, n, rfl⟩ := hrel
   by_cases hlt : k < xs.length
   ·obtain ⟨b, off, rfl, hx⟩ := hc k (xs[k]) (by simp [hlt]); obtain ⟨b', off', rfl, hy⟩ := hc' k (ys[k]'(by have := HL.out; omega)) (by simp); have hlt' : k < ys.length := by have := HL.out; omega
    go_wp2
    go_quiet (fail)
    go_wp2
    ·have hne : xs[k] ≠ ys[k] := by have h : (xs[k] != ys[k]) = true := by assumption
                                    simpa using h
     go_ret; exact ⟨by rw [qI0 (k := k) (by simp) (by simp) hne]; rfl, n + nq, by simp⟩
    ·have he : ys[k] = xs[k] := by have h : (xs[k] != ys[k]) = false := by assumption
                                   simpa using Eq.symm (by simpa using h)
     exact ⟨⟨k + 1, Oo, by go_num, dd (qHA (x := xs[k]) (by simp) (by simp [← he]) HT.out), n + nq, rfl⟩, by simp [intOf]; omega⟩
   ·go_wp2; go_ret; exact ⟨by rw [qIE HL.out hlt HT.out]; rfl, n, rfl⟩
 ·have hne : (((xs.length:Nat):Int) != ((ys.length:Nat):Int)) = true := by simp; omega
  have HL := dd hlen; clear hlen
  go_enter Tryz.func9, Tryz.ntmps9
  go_wp2; go_ret; exact ⟨by rw [qGO (fun h => HL.out (by rw [h]))]; rfl, 0, rfl⟩
theorem qMt (v u : Value) (xs ys : Li) (w : World) (hv : RdI w v xs) (hu : RdI w u ys) :
  Calls Tryz.prog 182 #[v, u] w fun e w' => e = .returned (.bool (qBv xs ys)) ∧ ∃ n, w' = w.drewN n := by
 obtain ⟨o, c, rfl, hm, hc⟩ := hv
 obtain ⟨o', c', rfl, hm', hc'⟩ := hu
 unfold maxLen at hm hm'
 by_cases hlen : xs.length = ys.length
 ·have hne : (((xs.length:Nat):Int) != ((ys.length:Nat):Int)) = false := by simp [hlen]
  have HL := dd hlen; clear hlen
  go_enter Tryz.func182, Tryz.ntmps182
  go_wp2
  go_loopw [13] (fun i wr => ∃ k : Nat, k ≤ xs.length ∧ i = .int .i64 k ∧ Hid (xs.take k = ys.take k) ∧ ∃ n, wr = w.drewN n) (fun i _ => xs.length - (intOf i).toNat)
  case atStart => exact ⟨0, Nat.zero_le _, rfl, dd rfl, 0, rfl⟩
  case round =>
   obtain ⟨k, hk, rfl, HT, n, rfl⟩ := hrel
   by_cases hlt : k < xs.length
   ·obtain ⟨b, off, rfl, hx⟩ := hc k (xs[k]) (by simp [hlt]); obtain ⟨b', off', rfl, hy⟩ := hc' k (ys[k]'(by have := HL.out; omega)) (by simp); have hlt' : k < ys.length := by have := HL.out; omega
    go_wp2
    go_quiet (fail)
    go_wp2
    ·have hne : xs[k] ≠ ys[k] := by have h : (xs[k] != ys[k]) = true := by assumption
                                    simpa using h
     go_ret; exact ⟨by rw [qI0 (k := k) (by simp) (by simp) hne]; rfl, n + nq, by simp⟩
    ·have he : ys[k] = xs[k] := by have h : (xs[k] != ys[k]) = false := by assumption
                                   simpa using Eq.symm (by simpa using h)
     exact ⟨⟨k + 1, Oo, by go_num, dd (qHA (x := xs[k]) (by simp) (by simp [← he]) HT.out), n + nq, rfl⟩, by simp [intOf]; omega⟩
   ·go_wp2; go_ret; exact ⟨by rw [qIE HL.out hlt HT.out]; rfl, n, rfl⟩
 ·have hne : (((xs.length:Nat):Int) != ((ys.length:Nat):Int)) = true := by simp; omega
  have HL := dd hlen; clear hlen
  go_enter Tryz.func182, Tryz.ntmps182
  go_wp2; go_ret; exact ⟨by rw [qGO (fun h => HL.out (by rw [h]))]; rfl, 0, rfl⟩
theorem qNn (v u : Value) (xss yss : Tb) (w : World) (hv : RdT w v xss) (hu : RdT w u yss) :
  Calls Tryz.prog 140 #[v, u] w fun e w' => e = .returned (.bool (qC3 xss yss)) ∧ ∃ n, w' = w.drewN n := by
 obtain ⟨o, c, rfl, hm, -⟩ := id hv
 obtain ⟨o', c', rfl, hm', -⟩ := id hu
 unfold maxLen at hm hm'
 by_cases hlen : xss.length = yss.length
 ·have hne : (((xss.length:Nat):Int) != ((yss.length:Nat):Int)) = false := by simp [hlen]
  have HL := dd hlen; clear hlen
  go_enter Tryz.func140, Tryz.ntmps140
  go_wp2
  go_loopw [5] (fun i wr => ∃ k : Nat, k ≤ xss.length ∧ i = .int .i64 k ∧ Hid (xss.take k = yss.take k) ∧ ∃ n, wr = w.drewN n) (fun i _ => xss.length - (intOf i).toNat)
  case atStart => exact ⟨0, Nat.zero_le _, rfl, dd rfl, 0, rfl⟩
  case round =>
   obtain ⟨k, hk, rfl, HT, n, rfl⟩ := hrel
   by_cases hlt : k < xss.length
   ·have hly : k < yss.length := by have := HL.out; omega
    obtain ⟨b, off, rfl, -⟩ := hv.rows Oo; obtain ⟨b', off', rfl, -⟩ := hu.rows Oo; obtain ⟨o1, c1, hx, hr⟩ := hv.row (show xss[k]? = some xss[k] by simp [hlt]); obtain ⟨o2, c2, hy, hs⟩ := hu.row (show yss[k]? = some yss[k] by simp [hly]); cases he : qBv xss[k] yss[k]
    ·go_wp2
     go_quiet ((go_at_call 187; (first | exact qDM (by rw [he]) (qE3 _ _ xss[k] yss[k] _ hr hs) | exact qDJ (by rw [he]) (qE3 _ _ xss[k] yss[k] _ hr hs) | exact qDN (by rw [he]) (qE3 _ _ xss[k] yss[k] _ hr hs) | exact qDL (by rw [he]) (qE3 _ _ xss[k] yss[k] _ hr hs))))
     go_wp2; go_ret; exact ⟨by rw [qLs (k := k) (by simp [hlt]) (by simp [hly]) he]; rfl, n + nq, by simp⟩
    ·go_wp2
     go_quiet ((go_at_call 187; (first | exact qDM (by rw [he]) (qE3 _ _ xss[k] yss[k] _ hr hs) | exact qDJ (by rw [he]) (qE3 _ _ xss[k] yss[k] _ hr hs) | exact qDN (by rw [he]) (qE3 _ _ xss[k] yss[k] _ hr hs) | exact qDL (by rw [he]) (qE3 _ _ xss[k] yss[k] _ hr hs))))
     go_wp2; exact ⟨⟨k + 1, Oo, by go_num, dd (qJF (by simp [hlt]) (by simp [hly]) he HT.out), _, rfl⟩, by simp [intOf]; omega⟩
   ·go_wp2; go_ret; exact ⟨by rw [qL5 HL.out hlt HT.out]; rfl, n, rfl⟩
 ·have hne : (((xss.length:Nat):Int) != ((yss.length:Nat):Int)) = true := by simp; omega
  have HL := dd hlen; clear hlen
  go_enter Tryz.func140, Tryz.ntmps140
  go_wp2; go_ret; exact ⟨by rw [qGo (fun h => HL.out (by rw [h]))]; rfl, 0, rfl⟩

theorem qLT (v u : Value) (xs ys : Li) (w : World) (hv : RdI w v xs) (hu : RdI w u ys) :
  Calls Tryz.prog 181 #[v, u] w fun e w' => e = .returned (.bool (qBv xs ys)) ∧ ∃ n, w' = w.drewN n := by
 go_enter Tryz.func181, Tryz.ntmps181
 go_wp2_with fail
 refine (qMt v u xs ys _ hv hu).mono ?_
 rintro e w' ⟨rfl, n, rfl⟩
 go_wp2
 go_ret
 exact ⟨rfl, n, rfl⟩
theorem qQa : qBf 181 := fun args w => Tryz.call181 args w

theorem qQ_ (v u : Value) (xss yss : Tb) (w : World) (hv : RdT w v xss) (hu : RdT w u yss) :
  Calls Tryz.prog 180 #[v, u, .func (.func 181) #[] #[]] w fun e w' => e = .returned (.bool (qC3 xss yss)) ∧ ∃ n, w' = w.drewN n := by
 obtain ⟨o, c, rfl, hm, -⟩ := id hv
 obtain ⟨o', c', rfl, hm', -⟩ := id hu
 unfold maxLen at hm hm'
 have hG := qQa
 unfold qBf at hG
 by_cases hlen : xss.length = yss.length
 ·have hne : (((xss.length:Nat):Int) != ((yss.length:Nat):Int)) = false := by simp [hlen]
  have HL := dd hlen; clear hlen
  go_enter Tryz.func180, Tryz.ntmps180
  go_wp2
  go_loopw [17] (fun i wr => ∃ k : Nat, k ≤ xss.length ∧ i = .int .i64 k ∧ Hid (xss.take k = yss.take k) ∧ ∃ n, wr = w.drewN n) (fun i _ => xss.length - (intOf i).toNat)
  case atStart => exact ⟨0, Nat.zero_le _, rfl, dd rfl, 0, rfl⟩
  case round =>
   obtain ⟨k, hk, rfl, HT, n, rfl⟩ := hrel
   by_cases hlt : k < xss.length
   ·have hly : k < yss.length := by have := HL.out; omega
    obtain ⟨b, off, rfl, -⟩ := hv.rows Oo; obtain ⟨b', off', rfl, -⟩ := hu.rows Oo; obtain ⟨o1, c1, hx, hr⟩ := hv.row (show xss[k]? = some xss[k] by simp [hlt]); obtain ⟨o2, c2, hy, hs⟩ := hu.row (show yss[k]? = some yss[k] by simp [hly]); have i0 : (0 : Int) ≤ (k : Int) := Oo; have i1 : (k : Int) < (xss.length : Int) := Oo; have i2 : (k : Int) < (yss.length : Int) := Oo; have hr' := hr.below (w' := w.drewN n) (below_drewN (Below.refl _ _) _) (nl _); have hs' := hs.below (w' := w.drewN n) (below_drewN (Below.refl _ _) _) (nl _); cases he : qBv xss[k] yss[k]
    ·go_wp2_with fail
     refine (qLT _ _ xss[k] yss[k] _ hr' hs').mono ?_; rw [he]; rintro e w' ⟨rfl, d, rfl⟩; go_wp2; go_ret; exact ⟨by rw [qLs (k := k) (by simp [hlt]) (by simp [hly]) he]; rfl, n + d, by first | rfl | rw [World.drewN_drewN]⟩
    ·go_wp2_with fail
     refine (qLT _ _ xss[k] yss[k] _ hr' hs').mono ?_; rw [he]; rintro e w' ⟨rfl, d, rfl⟩; go_wp2; exact ⟨⟨k + 1, Oo, by go_num, dd (qJF (by simp [hlt]) (by simp [hly]) he HT.out), n + d, by first | rfl | rw [World.drewN_drewN]⟩, by simp [intOf]; omega⟩
   ·go_wp2; go_ret; exact ⟨by rw [qL5 HL.out hlt HT.out]; rfl, n, rfl⟩
 ·have hne : (((xss.length:Nat):Int) != ((yss.length:Nat):Int)) = true := by simp; omega
  have HL := dd hlen; clear hlen
  go_enter Tryz.func180, Tryz.ntmps180
  go_wp2; go_ret; exact ⟨by rw [qGo (fun h => HL.out (by rw [h]))]; rfl, 0, rfl⟩

theorem qN0 (m n : Int) (v u : Value) (xss yss : Tb) (w : World) (hv : RdT w v xss) (hu : RdT w u yss) :
  Calls Tryz.prog 127 #[.agg #[.int .i64 m, v], .agg #[.int .i64 n, u]] w fun e w' => e = .returned (.bool (eqPB m xss n yss)) ∧ Below w.heap.size w w' := by
 obtain ⟨o, c, rfl, -, -⟩ := id hv
 obtain ⟨o', c', rfl, -, -⟩ := id hu
 cases h1 : (m == n)
 ·go_enter Tryz.func127, Tryz.ntmps127
  go_wp2_with fail
  (obtain ⟨w0, hw0⟩ : ∃ W : World, W = ((w.alloc (.cells #[.int .i64 m, .slice o xss.length c] 26)).alloc (.cells #[.int .i64 n, .slice o' yss.length c'] 26)) := ⟨_, rfl⟩; have X0 := (RB2.mk1 w  (.int .i64 m) (.slice o xss.length c) 26).1.below (w' := w0) (bV hw0) (nl _); have Y0 := (RB2.mk2 w (.cells #[.int .i64 m, .slice o xss.length c] 26) (.int .i64 n) (.slice o' yss.length c') 26).1.below (w' := w0) (bV hw0) (nl _); have B0 : Below w.heap.size w w0 := (bV hw0); rw [← hw0]; clear hw0)
  obtain ⟨x0, x1⟩ := id X0; obtain ⟨y0, y1⟩ := id Y0; go_wp2; go_ret; exact ⟨by simp only [eqPB, h1]; rfl, B0⟩
 ·have HE := dd (show eqPB m xss n yss = qC3 xss yss by simp only [eqPB, h1, Bool.true_and])
  go_enter Tryz.func127, Tryz.ntmps127
  go_wp2_with fail
  (obtain ⟨w0, hw0⟩ : ∃ W : World, W = ((w.alloc (.cells #[.int .i64 m, .slice o xss.length c] 26)).alloc (.cells #[.int .i64 n, .slice o' yss.length c'] 26)) := ⟨_, rfl⟩; have X0 := (RB2.mk1 w  (.int .i64 m) (.slice o xss.length c) 26).1.below (w' := w0) (bV hw0) (nl _); have Y0 := (RB2.mk2 w (.cells #[.int .i64 m, .slice o xss.length c] 26) (.int .i64 n) (.slice o' yss.length c') 26).1.below (w' := w0) (bV hw0) (nl _); have B0 : Below w.heap.size w w0 := (bV hw0); have hv0 := hv.below (w' := w0) (bV hw0) (nl _); have hu0 := hu.below (w' := w0) (bV hw0) (nl _); rw [← hw0]; clear hw0)
  obtain ⟨x0, x1⟩ := id X0; obtain ⟨y0, y1⟩ := id Y0
  go_wp2_with fail
  refine (qQ_ _ _ xss yss _ hv0 hu0).mono ?_; rintro e w1 ⟨rfl, d, rfl⟩; cases he : qC3 xss yss
  all_goals
   go_wp2; go_ret; exact ⟨by rw [HE.out, he]; rfl, (bY1 B0)⟩


theorem big_c (B n : Nat) (v : Value) (w : World) (hv : RdB w B n v) :
  Calls Tryz.prog 5 #[v] w fun e w' => e = .returned (.bool (decide (4096 < n))) ∧ w = w' := by
 obtain ⟨o, c, rfl, hmx, hc⟩ := hv
 have hml := hmx.1
 unfold maxLen at hml
 clear hc
 go_enter Tryz.func5, Tryz.ntmps5
 go_wp2
 go_ret
 exact ⟨by congr 2; simp; omega, rfl⟩
end Go.Proofs.YtfpphfjlpgefaaaGreat
