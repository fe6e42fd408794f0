/- Lemmas. -/
import Derived.Test.YtfpphfjlpgefaaaGreatqM20
import Derived.Test.YtfpphfjlpgefaaaGreatqHomP
import Derived.Test.YtfpphfjlpgefaaaGreatqM5
import Derived.Test.YtfpphfjlpgefaaaGreatqM13
import Derived.Test.YtfpphfjlpgefaaaGreatqM14
import Derived.Test.YtfpphfjlpgefaaaGreatqG3
import Derived.Test.YtfpphfjlpgefaaaGreatqSerT
import Derived.Test.YtfpphfjlpgefaaaGreatqG1
import Derived.StillTailTactics
import Derived.Test.YtfpphfjlpgefaaaGreatqM6
import Derived.Test.YtfpphfjlpgefaaaGreatqG13
import Derived.Test.YtfpphfjlpgefaaaGreatqSRev
set_option maxHeartbeats 1000000
set_option maxRecDepth 100000
set_option linter.unusedSimpArgs false
set_option linter.unusedVariables false
namespace Go.Proofs.YtfpphfjlpgefaaaGreat
open Go.RowKit

def qDv (k i : Nat) (t : Tb) : Tb := (List.range i).map (fun r => mk (k - r) (atT t r))
theorem qFu (k i : Nat) (t : Tb) : (qDv k i t).length = i := by simp [qDv]
theorem qKy (k i : Nat) (t : Tb) : qDv k (i + 1) t = qDv k i t ++ [mk (k - i) (atT t i)] := qGe k i _
theorem qIL {m : Int} {n k i : Nat} {t : Tb} (ht : PlaT m n t) (hi : i < k) (hk : k ≤ n) {row : Li} (hr : t[i]? = some row) : row.take (k - i) = mk (k - i) (atT t i) := by
 obtain ⟨hl, rfl⟩ := List.getElem?_eq_some_iff.1 hr
 have e := (ht.2 i hl).1
 rw [ht.1] at e
 rw [qFv (t[i].take (k - i)), List.length_take, e, show min (k - i) (n - i) = k - i by omega]
 exact qAh fun j hj => by rw [qHF hj, qDI hl]

theorem qHf (m d : Int) (n k : Nat) (v : Value) (t : Tb) (w : World) (hv : RdT w v t) (ht : PlaT m n t) (hd : d = (k : Int) - 1) (h1 : 1 ≤ k) (hk : k ≤ n) (hn : n ≤ 1000) :
  Calls Tryz.prog 119 #[v, .int .i64 d] w fun e w' => ∃ v', e = .returned v' ∧ OwS w' w.heap.size v' (qA_ k t) ∧ Below w.heap.size w w' := by
 subst hd
 obtain ⟨o, c, rfl, hmt, -⟩ := id hv
 have hv' : RdT w (.slice o n c) t := by rw [ht.1] at hv; exact hv
 rw [ht.1]
 have HT := dd ht
 clear ht hv hmt
 go_enter Tryz.func119, Tryz.ntmps119
 go_wp2_with fail
 have O1 := OwS.lit0 w
 have hb1 : Below w.heap.size w (w.alloc (.cells #[] 28)) := bZ
 generalize w.alloc (.cells #[] 28) = w1 at O1 hb1 ⊢
 go_loopw [5, 6] (fun l i wr => ∃ r : Nat, r ≤ k ∧ i = .int .i64 r ∧ OwS wr w.heap.size l (qDv k r t) ∧ Below w.heap.size w wr) (fun _ i _ => k - (intOf i).toNat)
 case atStart => exact ⟨0, Nat.zero_le _, rfl, O1, hb1⟩
 case round =>
  clear O1 hb1; obtain ⟨r, hr, rfl, hO, hB⟩ := hrel; have hBs := hB.size; obtain ⟨ol, cl, rfl⟩ := hO.shapeN (n := r) (qFu _ _ _)
  by_cases hlt : r < k
  ·obtain ⟨row, hr1, hl1, hj1⟩ := HT.out.row (show r < n by omega); have hvr := hv'.below hB; obtain ⟨bt, ft, rfl, -⟩ := hvr.rows (by have := HT.out.1; omega); obtain ⟨o1, c1, cx, rx⟩ := hvr.row hr1; obtain ⟨b1, f1, rfl, -⟩ := rx.cells Oo; have hcap := rx.len; have rt := rx.take (k - r) Oo; rw [qIL HT.out hlt hk hr1] at rt; have HS := dd (qKy k r t); have HL := dd (qFu k r t); generalize qDv k r t = l at hO HS HL; have i0 : (0 : Int) ≤ (r : Int) := Oo; have i1 : (r : Int) < (n : Int) := Oo; have i2 : (r : Int) ≤ (k : Int) - 1 := Oo; have e1 : IntKind.i64.wrap ((k : Int) - 1 - (r : Int)) = (k : Int) - 1 - (r : Int) := IntWalk.i64_in _ Oo; have e2 : (k : Int) - 1 - (r : Int) + 1 = ((k - r : Nat) : Int) := Oo; have e3 : IntKind.i64.wrap ((k - r : Nat) : Int) = ((k - r : Nat) : Int) := IntWalk.i64_in _ Oo; have e4 : (((k - r : Nat) : Int)).toNat = k - r := Oo; have e5 : ((k - r : Nat) : Int) ≤ (c1 : Int) := Oo; have e6 : (0 : Int) ≤ ((k - r : Nat) : Int) := Oo; clear hr1 hj1; have hrk : k - r ≤ 1048576 := Oo
   go_wp2_with (first
    | (go_at_call 139; go_loud (refine (qHx ⟨b1, f1, none⟩ (k - r) c1 (mk (k - r) (atT t r)) _ rt (by rw [qA8]; exact hrk)).mono ?_; rintro e w3 ⟨vo, rfl, how, hb3⟩; obtain ⟨oa, ca, rfl⟩ := how.shapeN (n := k - r) (qA8 _ _); have hz3 := hb3.size))
    | (at_builtin; obtain ⟨W, hW⟩ : ∃ W : World, W = w3.alloc (.cells #[.slice oa (k - r) ca] 28) := ⟨_, rfl⟩; have hWb : Below wr.heap.size wr W := (by rw [hW]; exact (bY1 hb3)); have hT : OwSR w.heap.size wr.heap.size W (.slice ol r cl) l := hO.toR.stay (fun j _ hj => hWb.block j hj); have hU : OwI W wr.heap.size (.slice oa (k - r) ca) (mk (k - r) (atT t r)) := (by rw [hW]; exact how.alloc _); have hC : W.cell? ⟨w3.heap.size, 0, none⟩ = some (.slice oa (k - r) ca) := (by rw [hW]; simp); have B3 := hB.trans (hWb.mono hBs); have hWs := hWb.size; rw [← hW]; have HW := dd hW; clear hW; go_loud (refine apT W rfl _ _ rfl w.heap.size wr.heap.size _ _ rfl hT Oo hBs _ _ w3.heap.size rfl hC hU (by rw [HL.out]; omega) ?_; intro g2 cap w4 hO4 hgr hb4; clear hgr; have B4 := B3.trans hb4)))
   rw [← HS.out] at hO4; exact ⟨⟨r + 1, Oo, by go_num, hO4, B4⟩, by simp [intOf]; omega⟩
  ·obtain rfl : r = k := Oo; have i2 : ¬ (r : Int) ≤ (r : Int) - 1 := Oo; go_wp2; go_ret; exact ⟨_, rfl, hO, hB⟩


theorem qP1 (v : Value) (ls : Li) (w : World) (hv : RdI w v ls) (hl : ls.length ≤ 3) :
  Calls Tryz.prog 169 #[v] w fun e w' => ∃ v', e = .returned v' ∧ OwI w' w.heap.size v' (ls ++ List.replicate (3 - ls.length) 0) ∧ Below w.heap.size w w' := by
 obtain ⟨o, c, rfl, hmx, -⟩ := id hv
 go_enter Tryz.func169, Tryz.ntmps169
 go_wp2_with fail
 refine (qIA _ ls _ hv Oo).mono ?_
 rintro e w1 ⟨gc, cc, rfl, hO, hB⟩
 go_wp2_with fail
 go_loopw [3] (fun s wr => ∃ k : Nat, ls.length + k ≤ 3 ∧ OwI wr w.heap.size s (ls ++ List.replicate k 0) ∧ Below w.heap.size w wr) (fun s _ => 3 - (match s with | .slice _ n _ => n | _ => 0))
 case atStart => exact ⟨0, Oo, by simpa using hO, hB⟩
 case round =>
  clear hO hB; obtain ⟨k, hk, hO, hB⟩ := hrel; obtain ⟨ov, cv, rfl⟩ := hO.shapeN (n := ls.length + k) (by simp); have hBs := hB.size; have HS := dd (show ls ++ List.replicate (k + 1) (0 : Int) = ls ++ List.replicate k 0 ++ [0] by rw [List.replicate_succ', List.append_assoc]); have HL := dd (show (ls ++ List.replicate k (0 : Int)).length = ls.length + k by simp); have HE := dd (show ls.length + k = 3 → ls ++ List.replicate k (0 : Int) = ls ++ List.replicate (3 - ls.length) 0 from fun h => by rw [show 3 - ls.length = k by omega]); generalize ls ++ List.replicate k (0 : Int) = l at hO HS HL HE; have HK := dd hk; generalize hN : ls.length + k = N at HK HL HE hk hO ⊢
  by_cases hlt : N < 3
  ·have i1 : (N : Int) < 3 := Oo
   go_wp2_with (at_builtin; refine apI wr rfl _ _ rfl w.heap.size (.slice ov N cv) _ rfl hO _ rfl (by rw [HL.out]; omega) Oo ?_; intro v' w4 hO3 hgr hb3 hlt3; clear hgr)
   rw [← HS.out] at hO3; obtain ⟨o5, c5, rfl⟩ := hO3.shapeN (n := N + 1) (by rw [HS.out, List.length_append, HL.out]; rfl); exact ⟨⟨k + 1, Oo, hO3, hB.trans hb3⟩, by simp; omega⟩
  ·have i1 : ¬ (N : Int) < 3 := Oo; rw [HE.out Oo] at hO; go_wp2; go_ret; exact ⟨_, rfl, hO, hB⟩

def pwT (m : Int) (n : Nat) (t : Tb) : Nat → Tb
 | 0 => t
 | k + 1 => qAO m n (pwT m n t k) t
theorem qIt {m : Int} (hm : 0 < m) {n : Nat} {t : Tb} (ht : PlaT m n t) : ∀ k, PlaT m n (pwT m n t k)
 | 0 => ht
 | k + 1 => qAU hm _ _ _

theorem qNH (m q : Int) (n k : Nat) (v : Value) (t : Tb) (w : World) (hv : RdT w v t) (hq : q = (k : Int) + 1) (hk : k ≤ 1000) (h1 : 1 ≤ n) (hn : n ≤ 1000) (hm : 2 ≤ m) (hm' : m ≤ 3000000000) (ht : PlaT m n t) :
  Calls Tryz.prog 201 #[.int .i64 m, v, .int .i64 q] w fun e w' => ∃ v', e = .returned v' ∧ RdT w' v' (pwT m n t k) ∧ Below w.heap.size w w' := by
 subst hq
 have HT := dd ht
 clear ht
 go_enter Tryz.func201, Tryz.ntmps201
 go_wp2
 go_loopw [2, 7] (fun i s wr => ∃ j : Nat, j ≤ k ∧ i = .int .i64 ((k - j : Nat) + 1 : Int) ∧ RdT wr s (pwT m n t j) ∧ Below w.heap.size w wr) (fun i _ _ => (intOf i).toNat)
 case atStart => exact ⟨0, Nat.zero_le _, rfl, hv, Below.refl _ _⟩
 case round =>
  obtain ⟨j, hj, rfl, hR, hB⟩ := hrel
  by_cases hlt : j < k
  ·have i1 : (1 : Int) < ((k - j : Nat) : Int) + 1 := Oo; have e1 : IntKind.i64.wrap ((k - j : Nat) : Int) = ((k - (j + 1) : Nat) : Int) + 1 := by rw [IntWalk.i64_in _ Oo]; omega
   have hvr := hv.below hB; have HP := dd (qIt (show 0 < m by omega) HT.out j); have HS := dd (show pwT m n t (j + 1) = qAO m n (pwT m n t j) t from rfl); generalize pwT m n t j = l at hR HP HS; have HN := dd (show k - (j + 1) < k - j by omega); generalize hz : k - (j + 1) = z at e1 HN; have HZ := dd hz; clear hz; generalize k - j = y at i1 e1 HN ⊢
   go_wp2_with fail
   refine (qDX m n _ v l t _ hR hvr h1 hn hm hm' HP.out HT.out).mono ?_; rintro e w2 ⟨v2, rfl, how, hb⟩; rw [← HS.out] at how; have B2 := hB.trans (hb.mono hB.size)
   go_wp2_with fail
   exact ⟨⟨j + 1, Oo, by rw [HZ.out], how.rd, B2⟩, by simp [intOf]; have := HN.out; omega⟩
  ·obtain rfl : j = k := Oo; have i1 : ¬ (1 : Int) < ((j - j : Nat) : Int) + 1 := Oo; go_wp2; go_ret; exact ⟨_, rfl, hR, hB⟩

theorem qLM (m : Int) (n : Nat) (v : Value) (t : Tb) (w : World) (hv : RdT w v t) (ht : PlaT m n t) (h1 : 1 ≤ n) (hn : n ≤ 1000) :
  Calls Tryz.prog 115 #[v] w fun e w' => ∃ v', e = .returned v' ∧ OwS w' w.heap.size v' t ∧ Below w.heap.size w w' := by
 obtain ⟨k, rfl⟩ : ∃ k, k = n := ⟨_, rfl⟩
 have hk : k ≤ k := Nat.le_refl _
 rw [show t = qA_ k t from qEm ht.1 (fun i hi => by rw [(ht.2 i hi).1, ht.1])]
 obtain ⟨o, c, rfl, hmt, -⟩ := id hv
 have hv' : RdT w (.slice o k c) t := by rw [ht.1] at hv; exact hv
 rw [ht.1]
 have HT := dd ht
 clear ht hv hmt
 go_enter Tryz.func115, Tryz.ntmps115
 go_wp2_with fail
 have O1 := OwS.lit0 w
 have hb1 : Below w.heap.size w (w.alloc (.cells #[] 28)) := bZ
 generalize w.alloc (.cells #[] 28) = w1 at O1 hb1 ⊢
 go_loopw [3, 4] (fun l i wr => ∃ r : Nat, r ≤ k ∧ i = .int .i64 r ∧ OwS wr w.heap.size l (qDv k r t) ∧ Below w.heap.size w wr) (fun _ i _ => k - (intOf i).toNat)
 case atStart => exact ⟨0, Nat.zero_le _, rfl, O1, hb1⟩
 case round =>
  clear O1 hb1; obtain ⟨r, hr, rfl, hO, hB⟩ := hrel; have hBs := hB.size; obtain ⟨ol, cl, rfl⟩ := hO.shapeN (n := r) (qFu _ _ _)
  by_cases hlt : r < k
  ·obtain ⟨row, hr1, hl1, hj1⟩ := HT.out.row (show r < k by omega); have hvr := hv'.below hB; obtain ⟨bt, ft, rfl, -⟩ := hvr.rows (by have := HT.out.1; omega); obtain ⟨o1, c1, cx, rx⟩ := hvr.row hr1; obtain ⟨b1, f1, rfl, -⟩ := rx.cells Oo; have hcap := rx.len; have hrow := qIL HT.out hlt hk hr1; rw [List.take_of_length_le Oo] at hrow; have rt := rx; rw [hl1, hrow] at rt; rw [hl1] at cx; clear hrow; have HS := dd (qKy k r t); have HL := dd (qFu k r t); generalize qDv k r t = l at hO HS HL; have i0 : (0 : Int) ≤ (r : Int) := Oo; have i1 : (r : Int) < (k : Int) := Oo; have i2 : (r : Int) ≤ (k : Int) - 1 := Oo; have e1 : IntKind.i64.wrap ((k : Int) - 1 - (r : Int)) = (k : Int) - 1 - (r : Int) := IntWalk.i64_in _ Oo; have e2 : (k : Int) - 1 - (r : Int) + 1 = ((k - r : Nat) : Int) := Oo; have e3 : IntKind.i64.wrap ((k - r : Nat) : Int) = ((k - r : Nat) : Int) := IntWalk.i64_in _ Oo; have e4 : (((k - r : Nat) : Int)).toNat = k - r := Oo; have e5 : ((k - r : Nat) : Int) ≤ (c1 : Int) := Oo; have e6 : (0 : Int) ≤ ((k - r : Nat) : Int) := Oo; clear hr1 hj1; have hrk : k - r ≤ 1048576 := Oo
   go_wp2_with (first
    | (go_at_call 139; go_loud (refine (qHx ⟨b1, f1, none⟩ (k - r) c1 (mk (k - r) (atT t r)) _ rt (by rw [qA8]; exact hrk)).mono ?_; rintro e w3 ⟨vo, rfl, how, hb3⟩; obtain ⟨oa, ca, rfl⟩ := how.shapeN (n := k - r) (qA8 _ _); have hz3 := hb3.size))
    | (at_builtin; obtain ⟨W, hW⟩ : ∃ W : World, W = w3.alloc (.cells #[.slice oa (k - r) ca] 28) := ⟨_, rfl⟩; have hWb : Below wr.heap.size wr W := (by rw [hW]; exact (bY1 hb3)); have hT : OwSR w.heap.size wr.heap.size W (.slice ol r cl) l := hO.toR.stay (fun j _ hj => hWb.block j hj); have hU : OwI W wr.heap.size (.slice oa (k - r) ca) (mk (k - r) (atT t r)) := (by rw [hW]; exact how.alloc _); have hC : W.cell? ⟨w3.heap.size, 0, none⟩ = some (.slice oa (k - r) ca) := (by rw [hW]; simp); have B3 := hB.trans (hWb.mono hBs); have hWs := hWb.size; rw [← hW]; have HW := dd hW; clear hW; go_loud (refine apT W rfl _ _ rfl w.heap.size wr.heap.size _ _ rfl hT Oo hBs _ _ w3.heap.size rfl hC hU (by rw [HL.out]; omega) ?_; intro g2 cap w4 hO4 hgr hb4; clear hgr; have B4 := B3.trans hb4)))
   rw [← HS.out] at hO4; exact ⟨⟨r + 1, Oo, by go_num, hO4, B4⟩, by simp [intOf]; omega⟩
  ·obtain rfl : r = k := Oo; have i2 : ¬ (r : Int) ≤ (r : Int) - 1 := Oo; go_wp2; go_ret; exact ⟨_, rfl, hO, hB⟩

def qEI (m c : Int) (xs : Li) (i : Nat) : Li := mk xs.length (fun k => if k < i then c * at0 xs k % m else 0)
theorem qP3 (m c : Int) (xs : Li) (i : Nat) : (qEI m c xs i).length = xs.length := qA8 _ _
theorem qQk (m c : Int) (xs : Li) : List.replicate xs.length (0 : Int) = qEI m c xs 0 := by
 rw [qDD]; exact qAh (fun k _ => by simp)
theorem qMK {m c : Int} {xs : Li} {i : Nat} : (qEI m c xs i).set i (c * at0 xs i % m) = qEI m c xs (i + 1) := by
 unfold qEI
 rw [qDu]
 refine qAh fun k hk => ?_
 by_cases h : k = i
 ·subst h; simp
 ·rw [if_neg h]
  by_cases h1 : k < i
  ·rw [if_pos h1, if_pos Oo]
  ·rw [if_neg h1, if_neg Oo]
theorem qFU (m c : Int) (xs : Li) : qBn m c xs = mk xs.length (fun k => c * at0 xs k % m) := by
 conv => lhs; rw [qFv (qBn m c xs), qG8]
 exact qAh fun k hk => qIf hk
theorem qM4 {m c : Int} {xs : Li} : qEI m c xs xs.length = qBn m c xs := by
 rw [qFU]; exact qAh fun k hk => by rw [if_pos hk]
theorem qQS (m c : Int) (xs : Li) : qBn m (c % m) xs = qBn m c xs := by
 rw [qFU, qFU]; exact qAh fun k _ => qAd (qCX _ _) rfl

theorem qNA (m a : Int) (v : Value) (xs : Li) (w : World) (hv : RdI w v xs) (h1 : 1 ≤ xs.length) (hn : xs.length ≤ 1048576) (hm : 2 ≤ m) (hm' : m ≤ 3000000000)
  (hx : ∀ x ∈ xs, 0 ≤ x ∧ x < m) (ha : -9000000000000000000 ≤ a) (ha' : a ≤ 9000000000000000000) :
  Calls Tryz.prog 91 #[.agg #[.int .i64 m, v], .int .i64 a] w fun e w' => qE5 w w' m (qBn m a xs) e := by
 obtain ⟨o, c, rfl, hmx, -⟩ := id hv
 have hml := hmx.1
 unfold maxLen at hmx
 rw [← qQS]
 have hA := qA6 (a := a) (show 0 < m by omega)
 go_enter Tryz.func91, Tryz.ntmps91
 go_wp2_with fail
 (obtain ⟨w0, hw0⟩ : ∃ W : World, W = ((w.alloc (.cells #[.int .i64 m, .slice o xs.length c] 34)).alloc (.cells #[.int .i64 0, .slice none 0 0] 34)) := ⟨_, rfl⟩; have X0 := (RB2.mk1 w  (.int .i64 m) (.slice o xs.length c) 34).1.below (w' := w0) (bV hw0) (nl _); have R0 := (RB2.mk2 w (.cells #[.int .i64 m, .slice o xs.length c] 34) (.int .i64 0) (.slice none 0 0) 34).below (w' := w0) (bV hw0) (nl _); have B0 : Below w.heap.size w w0 := (bV hw0); have hv0 := hv.below (w' := w0) (bV hw0) (nl _); rw [← hw0]; clear hw0)
 have hzl : w.heap.size + 1 < w0.heap.size := R0.1.lt
 go_cut [5] (fun sb u => ∃ (wz : World) (b : Nat) (oz : Option Addr) (cz : Nat), wz = u ∧ sb = .pointer (some ⟨b, 0, none⟩) ∧ w0.heap.size ≤ b ∧ RB2 u b (.int .i64 m) (.slice oz xs.length cz) ∧ OwI u w0.heap.size (.slice oz xs.length cz) (List.replicate xs.length 0) ∧ (∀ k, (Value.slice oz xs.length cz).ownBlock = some k → k ≠ b) ∧ Below w0.heap.size w0 u)
 case first =>
  have hd0 : Below w0.heap.size w0 w0.drew := (Below.refl _ _).drew; have hsd0 := hd0.size; have hlb_X0 := X0.lt; obtain ⟨q0_X0_0, q0_X0_1⟩ := X0.below (Below.refl w0.heap.size w0) (nl _); have hne0_X0 : w0.heap.size ≠ w.heap.size := Oo
  go_region_held3 (fun w' => w'.cell? ⟨w.heap.size, 0, none⟩ = some (.int .i64 m) ∧ w'.cell? ⟨w.heap.size, 1, none⟩ = some (.slice o xs.length c)) (go_keep)
   (first
    | (go_at_call 128; refine (qCb m o xs.length c _ hml).mono ?_; rintro e wd1 ⟨rfl, hbd1⟩; have hd1 : Below w0.heap.size w0 wd1 := (bY1 hbd1); have hsd1 := hd1.size; have hsz1_ := hbd1.size; (try simp at hsz1_); obtain ⟨q1_X0_0, q1_X0_1⟩ := X0.below hd1; have hne1_X0 : wd1.heap.size ≠ w.heap.size := Oo; (try (have RZ := RZ.below hbd1)); (try (have RZ := (show RB2 (w0.alloc (.cells #[.int .i64 0, .slice none 0 0] 34)).drew w0.heap.size (.int .i64 0) (.slice none 0 0) from RB2.mk1 w0 (.int .i64 0) (.slice none 0 0) _).below hbd1)); (try (obtain ⟨⟨z1_0, z1_1⟩, zf1⟩ := id RZ)))
    | (go_at_call 144; refine (qEP m ((xs.length : Int) - 1) xs.length _ Oo Oo).mono ?_; rintro e wd2 ⟨vz2, rfl, hod2, hbd2⟩; obtain ⟨oz, cz, rfl⟩ := hod2.shapeN (n := xs.length) (by simp); have hd2 : Below w0.heap.size w0 wd2 := (bY2 hbd1 hbd2); have hsd2 := hd2.size; have hsz2_ := hbd2.size; (try simp at hsz2_); obtain ⟨q2_X0_0, q2_X0_1⟩ := X0.below hd2; have hne2_X0 : wd2.heap.size ≠ w.heap.size := Oo; (try (have RZ := RZ.below hbd2)); (try (have RZ := (show RB2 (wd1.alloc (.cells #[.int .i64 0, .slice none 0 0] 34)) wd1.heap.size (.int .i64 0) (.slice none 0 0) from RB2.mk1 wd1 (.int .i64 0) (.slice none 0 0) _).below hbd2)); (try (obtain ⟨⟨z2_0, z2_1⟩, zf2⟩ := id RZ))))
  all_goals
   go_wp2_with fail
   go_meet
   have hL := hod2.lt; refine ⟨_, _, oz, cz, rfl, rfl, ?_, ?_, ?_, ?_, ?_⟩
   ·first | omega | (simp; done) | (simp; omega)
   ·first | exact RB2.mk1 _ _ _ _ | exact RB2.put RZ _ _
   ·first | exact (hod2.alloc _).mono sz | exact ((hod2.low sz _).low sz _).mono sz
   ·intro k hk; have hq := hL k hk; first | omega | (simp at hq; omega)
   ·(repeat (first | exact bR _ _ | (refine bS ?_ _) | (refine bA ?_ _) | (refine bN ?_ _) | (refine bD ?_) | (refine bT ?_ hbd1) | (refine bT ?_ hbd2)))
 case rest =>
 obtain ⟨w1, b, oz, cz, rfl, rfl, hbW, O, how, hneb, hb⟩ := hcut
 (have X1 := X0.below hb; have R1 := R0.below hb; have hv1 := hv0.below hb; have B1 := B0.trans (hb.mono B0.size))
 rw [qQk m (a % m) xs] at how
 obtain ⟨g, cap, hsl, hgl, hgl', -, -, -⟩ := how.opn (by rw [qP3]; omega)
 obtain ⟨rfl, rfl⟩ : oz = some ⟨g, 0, none⟩ ∧ cz = cap := by simp at hsl; exact ⟨hsl.1, hsl.2.2⟩
 clear hsl
 have hgb := hneb g rfl
 clear hneb
 obtain ⟨bx, fx, rfl, hcx⟩ := hv.cells h1
 clear hcx
 have B1s := B1.size
 obtain ⟨x0, x1⟩ := id X1
 go_wp2_with fail
 clear x0 x1
 go_loopw [16] (fun i wr => ∃ k : Nat, k ≤ xs.length ∧ i = .int .i64 k ∧ OwI wr w0.heap.size (.slice (some ⟨g, 0, none⟩) xs.length cz) (qEI m (a % m) xs k) ∧ w1.grownBy wr (some g)) (fun i _ => xs.length - (intOf i).toNat)
 case atStart => exact ⟨0, Nat.zero_le _, rfl, how, World.grownBy.refl _ _⟩
 case round =>
  obtain ⟨k, hk, rfl, hO, hg⟩ := hrel; have Br := qDC B1 hg Oo B1s
  by_cases hlt : k < xs.length
  ·obtain ⟨x0, x1⟩ := X1.grown hg (by simp; omega); obtain ⟨⟨z0, z1⟩, zf⟩ := O.grown hg (by simp; omega); have cx := (hv.below Br).cell0 (qA5 hlt); have hxk := qAG Oo hx k; have hc0 := hO.cell (k := k) (qAy hlt); have hf0 := hO.fz k; have Hn := dd hO; clear hO; have i0 : (0 : Int) ≤ (k : Int) := Oo; have i1 : (k : Int) < (xs.length : Int) := Oo
   go_wp2_with fail
   go_still_tail 12, kr
   still_call (qFe (qBl _ _ _ Oo Oo Oo Oo))
   repeat still_step
   still_call (qFe (qG7 _ _ _ _ Oo hm' Oo Oo Oo Oo))
   repeat still_step
   refine wpStill_nil ?_
   change wpList _ _ _ _ _ wr.drew
   go_wp2; have h2 := OwI.put Hn.out k (a % m * at0 xs k % m); rw [qMK] at h2; exact ⟨⟨k + 1, Oo, by go_num, h2, qJq (qAw hg _ _)⟩, by simp [intOf]; omega⟩
  ·obtain rfl : k = xs.length := Oo; rw [qM4] at hO; obtain ⟨⟨z0, z1⟩, zf⟩ := O.grown hg (by simp; omega); obtain ⟨⟨r0, r1⟩, rf⟩ := R1.grown hg (by simp; omega); go_wp2; refine bodyPost_ret (v := .agg #[.int .i64 m, .slice (some ⟨g, 0, none⟩) xs.length cz]) (by simp [results, Tryz.results91, go_sem, r0, r1]) rfl ⟨_, rfl, ?_, ?_⟩
   ·exact ((hO.low sz _).low sz _).mono sz
   ·(repeat (first | exact bR _ _ | (refine bS ?_ _) | (refine bA ?_ _) | (refine bN ?_ _) | (refine bD ?_) | (refine bT ?_ Br)))

theorem qNP (m a : Int) (v : Value) (xs : Li) (w : World) (hv : RdI w v xs) (hn : xs.length ≤ 1048576) (hm : 2 ≤ m) (hm' : m ≤ 3000000000) (ha : 0 ≤ a) (ha' : a < m)
  (hx : ∀ x ∈ xs, 0 ≤ x ∧ x < m) :
  Calls Tryz.prog 96 #[.int .i64 m, .int .i64 a, v] w fun e w' => ∃ v', e = .returned v' ∧ OwI w' w.heap.size v' (qBn m a xs) ∧ Below w.heap.size w w' := by
 obtain ⟨o, c, rfl, hmx, -⟩ := id hv
 have hml := hmx.1
 unfold maxLen at hmx
 have m0 : (m == 0) = false := by simp; omega
 have m1 : ¬ m = 0 := Oo
 rw [qFU]
 go_enter Tryz.func96, Tryz.ntmps96
 go_wp2_with fail
 have O1 := OwI.lit w [] (by decide)
 have B1 : Below w.heap.size w (w.alloc (.cells #[] 2)) := bZ
 simp at O1
 generalize w.alloc (.cells #[] 2) = w1 at O1 B1 ⊢
 go_loopw [7, 8] (fun s i wr => ∃ k : Nat, k ≤ xs.length ∧ i = .int .i64 k ∧ OwI wr w.heap.size s (mk k (fun j => a * at0 xs j % m)) ∧ Below w.heap.size w wr) (fun _ i _ => xs.length - (intOf i).toNat)
 case atStart => exact ⟨0, Nat.zero_le _, rfl, O1, B1⟩
 case round =>
  obtain ⟨k, hk, rfl, hO, hB⟩ := hrel; obtain ⟨ov, cv, rfl⟩ := hO.shapeN (n := k) (qA8 _ _)
  by_cases hlt : k < xs.length
  ·obtain ⟨bx, fx, rfl, -⟩ := hv.cells Oo; have cx := (hv.below hB).cell0 (qA5 hlt); have hxk := qAG Oo hx k; have hpf := qCY ha hxk.1 ha' hxk.2 Oo; have HS := dd (qCN k (fun j => a * at0 xs j % m)); have hBs := hB.size; have i0 : (0 : Int) ≤ (k : Int) := Oo; have i1 : (k : Int) < (xs.length : Int) := Oo; have e1 : IntKind.i64.wrap (a * at0 xs k) = a * at0 xs k := IntWalk.i64_in _ Oo; have e2 : (a * at0 xs k).tmod m = (a * at0 xs k) % m := Int.tmod_eq_emod_of_nonneg Oo
   go_wp2_with (at_builtin; refine apI wr rfl _ _ rfl w.heap.size (.slice ov k cv) _ rfl hO (a * at0 xs k % m) (by go_simp) (by rw [qA8]; omega) Oo ?_; intro v' w4 hO3 hgr hb3 hlt3; clear hgr)
   rw [← HS.out] at hO3; go_wp2; exact ⟨⟨k + 1, Oo, by go_num, hO3, hB.trans hb3⟩, by simp [intOf]; omega⟩
  ·obtain rfl : k = xs.length := Oo; go_wp2; go_ret; exact ⟨_, rfl, hO, hB⟩


theorem qGk (m a : Int) (v : Value) (xss : Tb) (w : World) (hv : RdT w v xss) (hm : 2 ≤ m) (hm' : m ≤ 3000000000) (ha : 0 ≤ a) (ha' : a < m) (hn : xss.length ≤ 1000)
  (hx : ∀ i (hi : i < xss.length), xss[i].length = xss.length - i ∧ ∀ x ∈ xss[i], 0 ≤ x ∧ x < m) :
  Calls Tryz.prog 175 #[.int .i64 m, .int .i64 a, v] w fun e w' => ∃ v', e = .returned v' ∧ OwS w' w.heap.size v' (qAP m xss.length a xss) ∧ Below w.heap.size w w' := by
 obtain ⟨o, c, rfl, hmx, -⟩ := id hv
 unfold maxLen at hmx
 have HX := dd hx
 clear hx
 go_enter Tryz.func175, Tryz.ntmps175
 go_wp2_with fail
 have O1 := OwS.lit0 w
 have B1 : Below w.heap.size w (w.alloc (.cells #[] 28)) := bZ
 generalize w.alloc (.cells #[] 28) = w1 at O1 B1 ⊢
 go_loopw [7, 8] (fun s i wr => ∃ (k : Nat) (ov : Option Addr) (cv : Nat), k ≤ xss.length ∧ i = .int .i64 k ∧ s = .slice ov k cv ∧ OwS wr w.heap.size (.slice ov k cv) ((List.range k).map (fun i => mk (xss.length - i) ((fun i j => (a * atT xss i j) % m) i))) ∧ Below w.heap.size w wr) (fun _ i _ => xss.length - (intOf i).toNat)
 case atStart => exact ⟨0, _, _, Nat.zero_le _, rfl, rfl, O1, B1⟩
 case round =>
  clear O1 B1; obtain ⟨k, ov, cv, hk, rfl, rfl, hO, hB⟩ := hrel
  by_cases hlt : k < xss.length
  ·have hxl := (HX.out k hlt).1
   have HE := dd (show qBn m a xss[k] = mk (xss.length - k) (fun j => (a * atT xss k j) % m) by
    rw [qFU, hxl]; exact qAh fun j _ => by rw [qDI hlt])
   have hrn : xss[k].length ≤ 1000 := Oo; have HEl := dd (qG8 m a xss[k]); clear hxl; obtain ⟨bx, fx, rfl, -⟩ := hv.rows Oo; obtain ⟨o1, c1, cx0, rx0⟩ := hv.row (show xss[k]? = some xss[k] by simp [hlt]); have cx := qA0 hB (nl _) cx0; have rx := rx0.below hB; have hBs := hB.size; have HS := dd (qGe xss.length k (fun i j => (a * atT xss i j) % m)); have HLn := dd (show ((List.range k).map (fun i => mk (xss.length - i) ((fun i j => (a * atT xss i j) % m) i))).length = k by simp); generalize (List.range k).map (fun i => mk (xss.length - i) ((fun i j => (a * atT xss i j) % m) i)) = l at hO HS HLn; have i0 : (0 : Int) ≤ (k : Int) := Oo; have i1 : (k : Int) < (xss.length : Int) := Oo
   go_wp2_with fail
   refine (qNP m a _ xss[k] _ rx Oo hm Oo ha ha' (HX.out k hlt).2).mono ?_; rintro e w2 ⟨va, rfl, how, hb2⟩; obtain ⟨oa, ca, rfl⟩ := how.shapeN (n := xss[k].length) HEl.out; have hz2 := hb2.size
   go_wp2_with (at_builtin; obtain ⟨W, hW⟩ : ∃ W : World, W = w2.alloc (.cells #[.slice oa xss[k].length ca] 28) := ⟨_, rfl⟩; have hWs : W.heap.size = w2.heap.size + 1 := (by rw [hW]; simp); have hT : OwSR w.heap.size wr.heap.size W (.slice ov k cv) l := (by rw [hW]; exact hO.toR.stay (fun j _ hj => (Below.heap_alloc _ _ j Oo).trans (hb2.block j hj))); have hU : OwI W wr.heap.size (.slice oa xss[k].length ca) (qBn m a xss[k]) := (by rw [hW]; exact how.alloc _); have hC : W.cell? ⟨w2.heap.size, 0, none⟩ = some (.slice oa xss[k].length ca) := (by rw [hW]; simp); have B3 : Below w.heap.size w W := (by rw [hW]; exact hB.trans ((((Below.refl wr.heap.size wr).trans hb2).alloc hz2 _).mono hBs)); rw [← hW]; have HW := dd hW; clear hW; go_loud (refine apT W rfl _ _ rfl w.heap.size wr.heap.size (.slice ov k cv) l rfl hT Oo hBs _ _ w2.heap.size rfl hC hU (by rw [HLn.out]; omega) ?_; intro g cap w3 hO3 hgr hb3; clear hgr; have B4 := B3.trans hb3))
   rw [HE.out, HLn.out, ← HS.out] at hO3; exact ⟨⟨k + 1, _, _, Oo, by go_num, by rw [HLn.out], hO3, B4⟩, by simp [intOf]; omega⟩
  ·obtain rfl : k = xss.length := Oo; go_wp2; go_ret; exact ⟨_, rfl, hO, hB⟩
end Go.Proofs.YtfpphfjlpgefaaaGreat
