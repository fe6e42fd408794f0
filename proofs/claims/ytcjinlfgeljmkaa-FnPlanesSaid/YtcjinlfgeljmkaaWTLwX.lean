/- Lemmas of LwX. -/
import Derived.Test.YtcjinlfgeljmkaaWTLwS
import Derived.Test.YtcjinlfgeljmkaaWTSrcY
set_option linter.unusedSimpArgs false
set_option linter.unusedVariables false
namespace Go.Proofs.Ytcjinlfgeljmkaa
open Go.RowKit

def PEnd3 (w w' : World) (m : Int) (xs : List (List Int)) (c : Int) (e : Ending) : Prop :=
  ∃ v', e = .returned (.tuple #[.agg #[.int .i64 m, v'], .int .i64 c]) ∧ OwS w' w.heap.size v' xs ∧ Below w.heap.size w w' ∧ sizeT xs ≤ 1048576
theorem pend3 {P : Program} {f : FuncId} {args : Array Value} {w : World} {m : Int} {xs : List (List Int)} {c : Int} (h : Calls P f args w fun e w' => PEnd w w' ⟨m, xs, c⟩ e) : Calls P f args w fun e w' => PEnd3 w w' m xs c e := h
def BEnd3 (w w' : World) (b : Bool) (c : Int) (e : Ending) : Prop := e = .returned (.tuple #[.bool b, .int .i64 c]) ∧ Below w.heap.size w w'
theorem bend3 {P : Program} {f : FuncId} {args : Array Value} {w : World} {b : Bool} {c : Int} (h : Calls P f args w fun e w' => BEnd2 w w' (b, c) e) : Calls P f args w fun e w' => BEnd3 w w' b c e := h

set_option maxHeartbeats 1000000 in
theorem rows5_same (v u : Value) (xss : List (List Int)) (w : World) (hv : RdT w v xss) (hu : RdT w u xss) :
    Calls Try.prog 153 #[v, u] w fun e w' => e = .returned (.bool true) ∧ ∃ n, w' = w.drewN n := by
  obtain ⟨o, c, rfl, hm, -⟩ := id hv
  obtain ⟨o', c', rfl, hm', -⟩ := id hu
  unfold maxLen at hm hm'
  have hne : (((xss.length:Nat):Int) != ((xss.length:Nat):Int)) = false := by simp
  go_enter Try.func153, Try.ntmps153
  go_wp2
  go_loopw [5] (fun i wr => ∃ k : Nat, k ≤ xss.length ∧ i = .int .i64 k ∧ ∃ n, wr = w.drewN n) (fun i _ => xss.length - (intOf i).toNat)
  case atStart => exact ⟨0, Nat.zero_le _, rfl, 0, rfl⟩
  case round =>
    obtain ⟨k, hk, rfl, n, rfl⟩ := hrel
    by_cases hlt : k < xss.length
    · obtain ⟨b, off, rfl, -⟩ := hv.rows (by omega)
      obtain ⟨b', off', rfl, -⟩ := hu.rows (by omega)
      obtain ⟨o1, c1, hx, hr⟩ := hv.row (show xss[k]? = some xss[k] by simp [hlt])
      obtain ⟨o2, c2, hy, hs⟩ := hu.row (show xss[k]? = some xss[k] by simp [hlt])
      go_wp2
      go_quiet ((go_at_call 28; (first | exact quietA (by rw [eqLB_self]) (likeInts_c _ _ xss[k] xss[k] _ hr hs) | exact quietB (by rw [eqLB_self]) (likeInts_c _ _ xss[k] xss[k] _ hr hs) | exact quietC (by rw [eqLB_self]) (likeInts_c _ _ xss[k] xss[k] _ hr hs) | exact quietD (by rw [eqLB_self]) (likeInts_c _ _ xss[k] xss[k] _ hr hs))))
      go_wp2
      exact ⟨⟨k + 1, by omega, by go_num, _, rfl⟩, by simp [intOf]; omega⟩
    · go_wp2
      go_ret
      exact ⟨rfl, n, rfl⟩

set_option maxHeartbeats 400000 in
set_option maxRecDepth 100000 in
theorem plane5_same (m : Int) (v u : Value) (xs : List (List Int)) (w : World) (hv : RdT w v xs) (hu : RdT w u xs) :
    Calls Try.prog 49 #[.agg #[.int .i64 m, v], .agg #[.int .i64 m, u]] w fun e w' => e = .returned (.bool true) ∧ Below w.heap.size w w' := by
  go_enter Try.func49, Try.ntmps49
  go_wp2_with fail
  have hb : Below w.heap.size w ((w.alloc (.cells #[.int .i64 m, v] 42)).alloc (.cells #[.int .i64 m, u] 42)) := (by (repeat (first | exact Below.refl _ _ | (refine Below.setCell ?_ (by first | (simp; done) | (simp; omega) | omega) _) | (refine Below.alloc ?_ (by first | (simp; done) | (simp; omega) | omega) _) | (refine below_drewN ?_ _) | (refine Below.drew ?_))))
  refine (rows5_same _ _ xs _ (hv.below hb (Nat.le_refl _)) (hu.below hb (Nat.le_refl _))).mono ?_
  rintro e w1 ⟨rfl, d, rfl⟩
  go_wp2
  go_ret
  exact ⟨rfl, below_drewN hb d⟩

set_option maxHeartbeats 1000000 in
set_option maxRecDepth 100000 in
theorem below5_d (B n b : Nat) (m : Int) (N : Nat) (w : World) (hs : Src w B n b) (hN : N ≤ 1000) (hm : 1 ≤ m) :
    Calls Try.prog 53 #[.pointer (some ⟨b, 0, none⟩), .int .i64 N, .int .i64 m] w fun e w' => ∃ v xs, e = .returned v ∧ OwI w' w.heap.size v xs ∧ (xs.length = N ∧ ∀ y ∈ xs, 0 ≤ y ∧ y < m) ∧ DW B n b w w' := by
  have hlt := hs.lt
  go_enter Try.func53, Try.ntmps53
  go_wp2_with fail
  have hO0 : OwI (w.alloc (.cells #[] 2)) w.heap.size (.slice (some ⟨w.heap.size, 0, none⟩) 0 0) [] := OwI.lit w [] (Nat.zero_le _)
  have hd0 := (DW.refl hs).alloc (.cells #[] 2)
  generalize w.alloc (.cells #[] 2) = w0 at hO0 hd0 ⊢
  go_loopw [7, 8] (fun v i wr => ∃ (k : Nat) (xs : List Int) (o : Option Addr) (c : Nat), k ≤ N ∧ i = .int .i64 k ∧ v = .slice o k c ∧ OwI wr w.heap.size (.slice o k c) xs ∧ Hid (xs.length = k ∧ ∀ y ∈ xs, 0 ≤ y ∧ y < m) ∧ DW B n b w wr) (fun _ i _ => N - (intOf i).toNat)
  case atStart => exact ⟨0, [], _, 0, Nat.zero_le _, by go_num, rfl, hO0, Lib.hid ⟨rfl, by simp⟩, hd0⟩
  case round =>
    clear hO0 hd0
    obtain ⟨k, xs, o, c, hk, rfl, rfl, hO, HX, hD⟩ := hrel
    have hz := hD.size
    by_cases hk2 : k < N
    · have i1 : (k : Int) < (N : Int) := by omega
      go_wp2_with fail
      refine (dice_d B n b m wr hD.src).mono ?_
      rintro e w2 ⟨y, rfl, y0, y1, y2, hdy, hzy⟩
      have y1 := y1 (by omega)
      have hO2 := hO.dw hdy hlt
      have hD2 := hD.trans hdy
      have hOl := hO2.lt
      clear y2 hdy hzy hO hD
      go_wp2_with (at_builtin; refine apI w2 rfl _ _ rfl w.heap.size (.slice o k c) xs rfl hO2 y (by go_simp) (by have := HX.out.1; omega) (by have := hD2.size; omega) ?_; intro v' w4 hO3 hgr hb3 hlt3; have hD4 := (hD2.alloc (.cells #[.int .i64 y] 2)).grown hgr (fun j hj => (hOl j hj).1))
      obtain ⟨o4, c4, rfl⟩ := hO3.shapeN (n := k + 1) (by simp [HX.out.1])
      have HX2 := Lib.hid (show (xs ++ [y]).length = k + 1 ∧ ∀ z ∈ xs ++ [y], 0 ≤ z ∧ z < m from ⟨by simp [HX.out.1], fun z hz => by
        rcases List.mem_append.1 hz with h | h
        · exact HX.out.2 z h
        · obtain rfl : z = y := by simpa using h
          exact ⟨y0, y1⟩⟩)
      exact ⟨⟨k + 1, xs ++ [y], o4, c4, by omega, by go_num, rfl, hO3, HX2, hD4⟩, by simp [intOf]; omega⟩
    · obtain rfl : k = N := by omega
      go_wp2
      go_ret
      exact ⟨_, xs, rfl, hO, HX.out, hD⟩
theorem below5_i (B n b : Nat) (m k : Int) (N : Nat) (w : World) (hs : Src w B n b) (hN : N ≤ 1000) (hm : 1 ≤ m) (hk : k = N) :
    Calls Try.prog 53 #[.pointer (some ⟨b, 0, none⟩), .int .i64 k, .int .i64 m] w fun e w' => ∃ v xs, e = .returned v ∧ OwI w' w.heap.size v xs ∧ (xs.length = N ∧ ∀ y ∈ xs, 0 ≤ y ∧ y < m) ∧ DW B n b w w' := by subst hk; exact below5_d B n b m N w hs hN hm
theorem row_of {w : World} {B N : Nat} {v : Value} {xs : List Int} (h : OwI w B v xs) (hl : xs.length = N) (h1 : 1 ≤ N) : ∃ g c, v = .slice (some ⟨g, 0, none⟩) N c := by
  obtain ⟨o, c, rfl⟩ := h.shapeN hl
  obtain ⟨g, rfl, -, -⟩ := h.row h1
  exact ⟨g, c, rfl⟩
theorem own_ne {w : World} {B g n c b : Nat} {xs : List Int} {x : Value} {o : Option Addr} {k cc : Nat} (h : OwI w B (.slice (some ⟨g, 0, none⟩) n c) xs) (hl : 2 ≤ xs.length) (X : Box2 w b x (.slice o k cc)) : g ≠ b := by
  rintro rfl
  have h1 := h.cell (k := 1) (some_at0 (xs := xs) (k := 1) (by omega))
  have h2 := X.2
  rw [h1] at h2
  cases h2
theorem sb_rds {w : World} {B b : Nat} {m : Int} {v : Value} {xs : List Int} (X : Box2 w b (.int .i64 m) v) (h : OwI w B v xs) (hb : B ≤ b) (hB : B ≤ w.heap.size) : Rds B w.heap.size w (fun u => SB u b m v xs) :=
  ⟨Nat.le_refl _, fun u hu => ⟨⟨(World.cell?_of_block (a := ⟨b, 0, none⟩) (hu b hb X.lt)).trans X.1, (World.cell?_of_block (a := ⟨b, 1, none⟩) (hu b hb X.lt)).trans X.2⟩, (h.rds hB).2 u hu⟩⟩
end Go.Proofs.Ytcjinlfgeljmkaa
