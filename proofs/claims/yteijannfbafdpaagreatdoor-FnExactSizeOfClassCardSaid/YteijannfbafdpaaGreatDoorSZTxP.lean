/- Lemmas. -/
import Derived.Test.YteijannfbafdpaaGreatDoorSZG1
import Derived.Lib.ItoaNum
import Derived.Lib.Join
set_option linter.unusedSimpArgs false
set_option linter.unusedVariables false
namespace Go.Proofs.YteijannfbafdpaaGreatDoor
open Go.RowKit
open Go.Lib

def valD (l : List UInt8) : Nat := l.foldl (fun a c => 10 * a + (c.toNat - 48)) 0
theorem valD_snoc (l : List UInt8) (c : UInt8) : valD (l ++ [c]) = 10 * valD l + (c.toNat - 48) := by simp [valD]
theorem dig_nat {i : Nat} (h : i < 10) : (UInt8.ofNat (48 + i)).toNat = 48 + i := by
  rw [UInt8.toNat_ofNat']; omega
theorem valD_dec (u : Nat) : valD (decDigits u) = u := by
  induction u using Nat.strongRecOn with
  | _ u ih =>
    rw [decDigits]
    split
    · rename_i h
      show 10 * 0 + ((UInt8.ofNat (48 + u)).toNat - 48) = u
      rw [dig_nat h]; omega
    · rename_i h
      rw [valD_snoc, ih (u / 10) (by omega), dig_nat (by omega)]; omega
theorem dec_digit (u : Nat) : ∀ c ∈ decDigits u, 48 ≤ c.toNat ∧ c.toNat ≤ 57 := by
  induction u using Nat.strongRecOn with
  | _ u ih =>
    intro c hc
    rw [decDigits] at hc
    split at hc
    · rename_i h
      simp only [List.mem_singleton] at hc
      rw [hc, dig_nat h]; omega
    · rename_i h
      rw [List.mem_append] at hc
      rcases hc with hc | hc
      · exact ih (u / 10) (by omega) c hc
      · simp only [List.mem_singleton] at hc
        rw [hc, dig_nat (by omega)]; omega
theorem itoa_pos {x : Int} (h : 0 ≤ x) : itoa x = decDigits x.toNat := by unfold itoa; rw [if_neg (by omega)]
theorem itoa_inj {x y : Int} (hx : 0 ≤ x) (hy : 0 ≤ y) (h : itoa x = itoa y) : x = y := by
  rw [itoa_pos hx, itoa_pos hy] at h
  have := congrArg valD h
  rw [valD_dec, valD_dec] at this
  omega
theorem itoa_digit {x : Int} (h : 0 ≤ x) : ∀ c ∈ itoa x, 48 ≤ c.toNat ∧ c.toNat ≤ 57 := by rw [itoa_pos h]; exact dec_digit _
theorem cut_at {s : UInt8} : ∀ {a b x y : List UInt8}, s ∉ a → s ∉ b → a ++ s :: x = b ++ s :: y → a = b ∧ x = y
  | [], [], x, y, _, _, h => by simpa using h
  | [], c :: b, x, y, _, hb, h => by
    simp only [List.nil_append, List.cons_append, List.cons.injEq] at h
    exact absurd (by rw [h.1]; simp) hb
  | c :: a, [], x, y, ha, _, h => by
    simp only [List.nil_append, List.cons_append, List.cons.injEq] at h
    exact absurd (by rw [← h.1]; simp) ha
  | c :: a, d :: b, x, y, ha, hb, h => by
    simp only [List.cons_append, List.cons.injEq] at h
    obtain ⟨h1, h2⟩ := cut_at (fun h => ha (List.mem_cons_of_mem _ h)) (fun h => hb (List.mem_cons_of_mem _ h)) h.2
    exact ⟨by rw [h.1, h1], h2⟩
theorem join_two (a b : List UInt8) (l : List (List UInt8)) (s : UInt8) : Lib.join (a :: b :: l) [s] = a ++ s :: Lib.join (b :: l) [s] := by
  rw [join_cons, join_cons, joinTail]; simp [joinTail]
theorem join_inj {s : UInt8} : ∀ {l k : List (List UInt8)}, l.length = k.length → (∀ p ∈ l, s ∉ p) → (∀ p ∈ k, s ∉ p) → Lib.join l [s] = Lib.join k [s] → l = k
  | [], [], _, _, _, _ => rfl
  | [], _ :: _, h, _, _, _ => by simp at h
  | _ :: _, [], h, _, _, _ => by simp at h
  | [a], [b], _, _, _, h => by rw [join_one, join_one] at h; rw [h]
  | [a], _ :: _ :: _, h, _, _, _ => by simp at h
  | _ :: _ :: _, [b], h, _, _, _ => by simp at h
  | a :: a' :: l, b :: b' :: k, hl, h1, h2, h => by
    rw [join_two, join_two] at h
    obtain ⟨e1, e2⟩ := cut_at (h1 a (by simp)) (h2 b (by simp)) h
    have := join_inj (by simpa using hl) (fun p hp => h1 p (List.mem_cons_of_mem _ hp)) (fun p hp => h2 p (List.mem_cons_of_mem _ hp)) e2
    rw [e1, this]
theorem join_mem {s c : UInt8} : ∀ {l : List (List UInt8)}, c ∈ Lib.join l [s] → c = s ∨ ∃ p ∈ l, c ∈ p
  | [], h => by simp [join_nil] at h
  | [a], h => by rw [join_one] at h; exact .inr ⟨a, by simp, h⟩
  | a :: b :: l, h => by
    rw [join_two, List.mem_append, List.mem_cons] at h
    rcases h with h | h | h
    · exact .inr ⟨a, by simp, h⟩
    · exact .inl h
    · rcases join_mem h with h | ⟨p, hp, hc⟩
      · exact .inl h
      · exact .inr ⟨p, List.mem_cons_of_mem _ hp, hc⟩
def rowX (r : List Int) : List UInt8 := Lib.join (r.map itoa) [44]
theorem row_inj {r q : List Int} (hl : r.length = q.length) (hr : ∀ x ∈ r, 0 ≤ x) (hq : ∀ x ∈ q, 0 ≤ x) (h : rowX r = rowX q) : r = q := by
  have hd : ∀ {r : List Int}, (∀ x ∈ r, 0 ≤ x) → ∀ p ∈ r.map itoa, (44 : UInt8) ∉ p := by
    intro r hr p hp hc
    obtain ⟨x, hx, rfl⟩ := List.mem_map.1 hp
    have := (itoa_digit (hr x hx) 44 hc).1
    simp at this
  have e := join_inj (by simpa using hl) (hd hr) (hd hq) h
  refine List.ext_getElem hl fun i h1 h2 => ?_
  have := congrArg (·[i]?) e
  simp [h1, h2] at this
  exact itoa_inj (hr _ (List.getElem_mem _)) (hq _ (List.getElem_mem _)) this
theorem row_no {r : List Int} (hr : ∀ x ∈ r, 0 ≤ x) : (47 : UInt8) ∉ rowX r := by
  intro h
  rcases join_mem h with h | ⟨p, hp, hc⟩
  · simp at h
  · obtain ⟨x, hx, rfl⟩ := List.mem_map.1 hp
    have := (itoa_digit (hr x hx) 47 hc).1
    simp at this
def tabX (t : List (List Int)) : List UInt8 := Lib.join (t.map rowX) [47]
theorem tabX_inj {m : Int} {n : Nat} {t s : List (List Int)} (ht : PlaT m n t) (hs : PlaT m n s) (h : tabX t = tabX s) : t = s := by
  have hp : ∀ {t : List (List Int)}, PlaT m n t → ∀ r ∈ t, ∀ x ∈ r, 0 ≤ x := by
    intro t ht r hr x hx
    obtain ⟨i, hi, rfl⟩ := List.getElem_of_mem hr
    exact ((ht.2 i hi).2 x hx).1
  have hd : ∀ {t : List (List Int)}, PlaT m n t → ∀ p ∈ t.map rowX, (47 : UInt8) ∉ p := by
    intro t ht p hpm
    obtain ⟨r, hr, rfl⟩ := List.mem_map.1 hpm
    exact row_no (hp ht r hr)
  have hl : t.length = s.length := by rw [ht.1, hs.1]
  have e := join_inj (by simpa using hl) (hd ht) (hd hs) h
  refine List.ext_getElem hl fun i h1 h2 => ?_
  have := congrArg (·[i]?) e
  simp [h1, h2] at this
  exact row_inj (by rw [(ht.2 i h1).1, (hs.2 i h2).1, hl]) (hp ht _ (List.getElem_mem _)) (hp hs _ (List.getElem_mem _)) this
def texB (m : Int) (t : List (List Int)) : ByteArray := ⟨(itoa m).toArray⟩ ++ ⟨#[58]⟩ ++ ⟨(tabX t).toArray⟩
theorem texB_inj {m : Int} {n : Nat} {t s : List (List Int)} (ht : PlaT m n t) (hs : PlaT m n s) (h : texB m t = texB m s) : t = s := by
  have := congrArg (fun b : ByteArray => b.data.toList) h
  simp [texB, ByteArray.data_append] at this
  exact tabX_inj ht hs this
end Go.Proofs.YteijannfbafdpaaGreatDoor
