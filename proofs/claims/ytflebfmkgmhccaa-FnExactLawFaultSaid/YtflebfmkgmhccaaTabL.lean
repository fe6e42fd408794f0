/- Tables: sizes, marks, and how they live on. -/
import Derived.Test.YtflebfmkgmhccaaTab
import Derived.Test.YtflebfmkgmhccaaLaw
set_option linter.unusedSimpArgs false
set_option linter.unusedVariables false
namespace Go.Proofs.Ytflebfmkgmhccaa
open Go.RowKit

def numT : List (List Int) → Nat
  | [] => 0
  | r :: rs => r.length + numT rs
def sizeT (xss : List (List Int)) : Nat := xss.length + numT xss
theorem numT_app (a b : List (List Int)) : numT (a ++ b) = numT a + numT b := by
  induction a with
  | nil => simp [numT]
  | cons r a ih => simp only [List.cons_append, numT, ih]; omega
theorem numT_take (xss : List (List Int)) (k : Nat) (hk : k < xss.length) : numT (xss.take (k + 1)) = numT (xss.take k) + xss[k].length := by
  rw [List.take_succ_eq_append_getElem hk, numT_app]; simp [numT]
theorem numT_le (xss : List (List Int)) (k : Nat) : numT (xss.take k) ≤ numT xss := by
  have := numT_app (xss.take k) (xss.drop k)
  rw [List.take_append_drop] at this
  omega
theorem row_le {xss : List (List Int)} {k : Nat} (hk : k < xss.length) : xss[k].length ≤ numT xss := by
  have h1 := numT_take xss k hk
  have h2 := numT_le xss (k + 1)
  omega

/-- Numbered tables. -/
def iotaT (k : Int) : List (List Int) → List (List Int)
  | [] => []
  | r :: rs => iota k r.length :: iotaT (k + r.length) rs
theorem iotaT_len (k : Int) (xss : List (List Int)) : (iotaT k xss).length = xss.length := by
  induction xss generalizing k with
  | nil => rfl
  | cons r rs ih => simp [iotaT, ih]
theorem iotaT_app (k : Int) (a b : List (List Int)) : iotaT k (a ++ b) = iotaT k a ++ iotaT (k + numT a) b := by
  induction a generalizing k with
  | nil => simp [iotaT, numT]
  | cons r a ih =>
    simp only [List.cons_append, iotaT, ih, numT]
    congr 3
    omega
theorem iotaT_get (k : Int) (xss : List (List Int)) (i : Nat) (hi : i < xss.length) : (iotaT k xss)[i]? = some (iota (k + numT (xss.take i)) xss[i].length) := by
  have h : xss = xss.take i ++ (xss[i] :: xss.drop (i + 1)) := by rw [← List.drop_eq_getElem_cons hi, List.take_append_drop]
  have e : iotaT k xss = iotaT k (xss.take i) ++ (iota (k + numT (xss.take i)) xss[i].length :: iotaT (k + numT (xss.take i) + xss[i].length) (xss.drop (i + 1))) := by
    conv => lhs; rw [h]
    rw [iotaT_app]; rfl
  rw [e, List.getElem?_append_right (by rw [iotaT_len]; simp; omega)]
  rw [iotaT_len, List.length_take, show min i xss.length = i by omega]; simp

def markedT (xss : List (List Int)) (k : Int) (i : Nat) : List (List Int) := iotaT k (xss.take i) ++ xss.drop i
theorem markedT_0 (xss : List (List Int)) (k : Int) : markedT xss k 0 = xss := by simp [markedT, iotaT]
theorem markedT_all (xss : List (List Int)) (k : Int) : markedT xss k xss.length = iotaT k xss := by simp [markedT]
theorem markedT_len (xss : List (List Int)) (k : Int) (i : Nat) (hi : i ≤ xss.length) : (markedT xss k i).length = xss.length := by simp [markedT, iotaT_len]; omega
theorem markedT_get (xss : List (List Int)) (k : Int) (i : Nat) (hi : i < xss.length) : (markedT xss k i)[i]? = some xss[i] := by
  unfold markedT
  rw [List.getElem?_append_right (by rw [iotaT_len]; simp; omega), iotaT_len]
  simp [show min i xss.length = i by omega, hi]
theorem markedT_set (xss : List (List Int)) (k : Int) (i : Nat) (hi : i < xss.length) : (markedT xss k i).set i (iota (k + numT (xss.take i)) xss[i].length) = markedT xss k (i + 1) := by
  unfold markedT
  rw [List.drop_eq_getElem_cons hi, List.set_append_right _ _ (by rw [iotaT_len]; simp; omega), iotaT_len, List.length_take, show i - min i xss.length = 0 by omega, List.set_cons_zero, List.take_succ_eq_append_getElem hi, iotaT_app]
  simp [iotaT]

def eqTB (xss yss : List (List Int)) : Bool := decide (xss = yss)
theorem eqTB_self (xss : List (List Int)) : eqTB xss xss = true := by simp [eqTB]
theorem eqTB_ne {xss yss : List (List Int)} (h : xss ≠ yss) : eqTB xss yss = false := by simp [eqTB, h]
theorem eqTB_idx {xss yss : List (List Int)} {k : Nat} {x y : List Int} (hx : xss[k]? = some x) (hy : yss[k]? = some y) (h : eqLB x y = false) : eqTB xss yss = false := by
  apply eqTB_ne; rintro rfl
  rw [hx] at hy
  cases hy
  simp [eqLB] at h
theorem takeT_eq {xss yss : List (List Int)} {k : Nat} {x y : List Int} (hx : xss[k]? = some x) (hy : yss[k]? = some y) (e : eqLB x y = true) (h : xss.take k = yss.take k) : xss.take (k+1) = yss.take (k+1) := by
  have : x = y := by simpa [eqLB] using e
  subst this
  rw [List.take_add_one, List.take_add_one, h, hx, hy]
theorem eqTB_take {xss yss : List (List Int)} {k : Nat} (h : xss.length = yss.length) (hk : ¬ k < xss.length) (ht : xss.take k = yss.take k) : eqTB xss yss = true := by
  rw [List.take_of_length_le (by omega), List.take_of_length_le (by omega)] at ht
  subst ht; exact eqTB_self _

/-- The first k rows, then empty ones. -/
def uptoT (xss : List (List Int)) (k : Nat) : List (List Int) := xss.take k ++ List.replicate (xss.length - k) []
theorem uptoT_len (xss : List (List Int)) (k : Nat) (hk : k ≤ xss.length) : (uptoT xss k).length = xss.length := by simp [uptoT]; omega
theorem uptoT_0 (xss : List (List Int)) : uptoT xss 0 = List.replicate xss.length [] := by simp [uptoT]
theorem uptoT_all (xss : List (List Int)) : uptoT xss xss.length = xss := by simp [uptoT]
theorem uptoT_get (xss : List (List Int)) (k : Nat) (hk : k < xss.length) : (uptoT xss k)[k]? = some [] := by
  unfold uptoT
  rw [List.getElem?_append_right (by simp; omega), List.length_take, show k - min k xss.length = 0 by omega, List.getElem?_replicate, if_pos (by omega)]
theorem uptoT_set (xss : List (List Int)) (k : Nat) (hk : k < xss.length) : (uptoT xss k).set k xss[k] = uptoT xss (k+1) := by
  unfold uptoT
  rw [List.set_append_right _ _ (by simp; omega), List.length_take, show k - min k xss.length = 0 by omega, show xss.length - k = (xss.length - (k + 1)) + 1 by omega, List.replicate_succ, List.set_cons_zero,
    List.take_succ_eq_append_getElem hk, List.append_assoc]; rfl

/-- An owned table with the end of the part of the heap in which it lives. -/
def OwSR (lo hi : Nat) (w : World) (v : Value) (xss : List (List Int)) : Prop :=
  ∃ us : List Value, us.length = xss.length ∧ w.ownsRow lo 26 1 v xss.length us ∧
    (∀ (k : Nat) (u : Value) (row : List Int), us[k]? = some u → xss[k]? = some row → OwI w lo u row) ∧
    (∀ (i j : Nat) (u u' : Value) (b : Nat), us[i]? = some u → us[j]? = some u' → u.ownBlock = some b → u'.ownBlock = some b → i = j) ∧
    (∀ (i : Nat) (u : Value) (b : Nat), us[i]? = some u → u.ownBlock = some b → v.ownBlock = some b → False) ∧
    (∀ b : Nat, v.ownBlock = some b → b < hi) ∧ (∀ (k : Nat) (u : Value) (b : Nat), us[k]? = some u → u.ownBlock = some b → b < hi)
theorem OwSR.ow {lo hi : Nat} {w : World} {v : Value} {xss : List (List Int)} (h : OwSR lo hi w v xss) : OwS w lo v xss := by
  obtain ⟨us, h1, h2, h3, h4, h5, -⟩ := h; exact ⟨us, h1, h2, h3, h4, h5⟩
theorem OwSR.rd {lo hi : Nat} {w : World} {v : Value} {xss : List (List Int)} (h : OwSR lo hi w v xss) : RdT w v xss := h.ow.rd
theorem OwS.toR {w : World} {B : Nat} {v : Value} {xss : List (List Int)} (h : OwS w B v xss) : OwSR B w.heap.size w v xss := by
  obtain ⟨us, h1, h2, h3, h4, h5⟩ := h
  refine ⟨us, h1, h2, h3, h4, h5, fun b hb => (h2.lt b hb).2, fun k u b hu hb => ?_⟩
  have hk : k < us.length := (List.getElem?_eq_some_iff.1 hu).1
  exact ((h3 k u (xss[k]'(by omega)) hu (by simp [show k < xss.length by omega])).lt b hb).2
theorem OwI.stay {u u' : World} {lo hi : Nat} {v : Value} {xs : List Int} (h : OwI u lo v xs) (hb : ∀ b : Nat, v.ownBlock = some b → b < hi) (hk : ∀ k, lo ≤ k → k < hi → u'.heap[k]? = u.heap[k]?) : OwI u' lo v xs := by
  obtain ⟨h1, h2⟩ := h
  refine ⟨h1, ?_⟩
  rcases h2 with h2 | ⟨g, cap, cur, hv, hg, hh, r⟩
  · exact .inl h2
  · exact .inr ⟨g, cap, cur, hv, hg, by rw [hk g hg (hb g (by rw [hv]; rfl))]; exact hh, r⟩
theorem OwSR.stay {u u' : World} {lo hi : Nat} {v : Value} {xss : List (List Int)} (h : OwSR lo hi u v xss) (hk : ∀ k, lo ≤ k → k < hi → u'.heap[k]? = u.heap[k]?) : OwSR lo hi u' v xss := by
  obtain ⟨us, h1, h2, h3, h4, h5, h6, h7⟩ := h
  refine ⟨us, h1, ⟨h2.1, ?_⟩, fun k w' row hu hx => (h3 k w' row hu hx).stay (h7 k w' · hu) hk, h4, h5, h6, h7⟩
  rcases h2.2 with h2 | ⟨g, cap, cur, hv, hg, hh, r⟩
  · exact .inl h2
  · exact .inr ⟨g, cap, cur, hv, hg, by rw [hk g hg (h6 g (by rw [hv]; rfl))]; exact hh, r⟩

/-- The same with the rows' values named. -/
def RdTU (us : List Value) (w : World) (v : Value) (xss : List (List Int)) : Prop :=
  ∃ o c, v = .slice o xss.length c ∧ (xss.length ≤ maxLen ∧ xss.length ≤ c ∧ (o = none → c = 0)) ∧
    (∀ k row, xss[k]? = some row → ∃ b off u, o = some ⟨b, off, none⟩ ∧ us[k]? = some u ∧ w.cell? ⟨b, off + k, none⟩ = some u ∧ RdI w u row)
theorem RdTU.rd {us : List Value} {w : World} {v : Value} {xss : List (List Int)} (h : RdTU us w v xss) : RdT w v xss := by
  obtain ⟨o, c, h1, h2, h3⟩ := h
  exact ⟨o, c, h1, h2, fun k row hx => by obtain ⟨b, off, u, e1, -, e2, e3⟩ := h3 k row hx; exact ⟨b, off, u, e1, e2, e3⟩⟩
theorem RdT.named {w : World} {v : Value} {xss : List (List Int)} (h : RdT w v xss) : ∃ us, RdTU us w v xss := by
  obtain ⟨o, c, rfl, hm, hc⟩ := h
  cases o with
  | none =>
    refine ⟨[], none, c, rfl, hm, fun k row hx => ?_⟩
    obtain ⟨b, off, u, e, -⟩ := hc k row hx
    cases e
  | some a =>
    refine ⟨(List.range xss.length).map (fun k => (w.cell? ⟨a.block, a.off + k, none⟩).getD default), some a, c, rfl, hm, fun k row hx => ?_⟩
    have hk : k < xss.length := (List.getElem?_eq_some_iff.1 hx).1
    obtain ⟨b, off, u, e, hcell, hr⟩ := hc k row hx
    obtain rfl := Option.some.inj e
    exact ⟨b, off, u, rfl, by simp [hk, hcell], hcell, hr⟩
theorem RdI.stay {w u u' : World} {v : Value} {xs : List Int} (h : RdI w v xs) (hu : RdI u v xs) (hk : ∀ k, k < w.heap.size → u'.heap[k]? = u.heap[k]?) : RdI u' v xs :=
  (Lives.rdI h).stay u u' (fun k _ hk' => hk k hk') hu
theorem Lives.rdT {w : World} {v : Value} {xss : List (List Int)} (h : RdT w v xss) : ∃ us, Lives 0 w.heap.size w (fun u => RdTU us u v xss) := by
  obtain ⟨us, hu⟩ := h.named
  refine ⟨us, hu, Nat.le_refl _, ?_⟩
  obtain ⟨o, c, rfl, hm, hc⟩ := hu
  rintro u u' hk ⟨o', c', heq, hm', hc'⟩
  obtain ⟨rfl, rfl⟩ : o = o' ∧ c = c' := by simpa using heq
  refine ⟨o, c, rfl, hm', fun k row hx => ?_⟩
  obtain ⟨b, off, z, hb, hus, hcell, hr⟩ := hc' k row hx
  obtain ⟨b1, off1, z1, hb1, hus1, hcell1, hr1⟩ := hc k row hx
  rw [hb] at hb1
  obtain ⟨rfl, rfl⟩ : b = b1 ∧ off = off1 := by simpa using hb1
  rw [hus] at hus1
  obtain rfl := Option.some.inj hus1
  exact ⟨b, off, z, hb, hus, (World.cell?_of_block (w := u) (a := ⟨b, off + k, none⟩) (hk b (Nat.zero_le _) (cell_lt hcell1))).trans hcell, hr1.stay hr (fun k hk' => hk k (Nat.zero_le _) hk')⟩
theorem Lives.owS {w w' : World} {v : Value} {xss : List (List Int)} (h : OwS w' w.heap.size v xss) (hB : w.heap.size ≤ w'.heap.size) : Lives w.heap.size w'.heap.size w' (fun u => OwSR w.heap.size w'.heap.size u v xss) :=
  ⟨h.toR, Nat.le_refl _, fun u u' hk hx => hx.stay hk⟩
theorem Lives.markedT {w w' : World} {lo hi : Nat} {v : Value} {xss yss : List (List Int)} (h : Lives lo hi w (fun u => OwSR lo hi u v xss)) (ho : OwSR lo hi w' v yss) (hc : Chg lo hi w w') : Lives lo hi w' (fun u => OwSR lo hi u v yss) :=
  ⟨ho, Nat.le_trans h.le hc.size, fun u u' hk hx => hx.stay hk⟩
end Go.Proofs.Ytflebfmkgmhccaa
