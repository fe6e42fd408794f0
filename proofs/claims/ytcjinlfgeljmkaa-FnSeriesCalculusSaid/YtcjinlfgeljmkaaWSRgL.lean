/- Lemmas of RgL. -/
import Derived.Test.YtcjinlfgeljmkaaWSRg
set_option linter.unusedSimpArgs false
set_option linter.unusedVariables false
namespace Go.Proofs.Ytcjinlfgeljmkaa
open Rg

section gen
variable {T : Type} [Rg T]
def ev1 (n : Nat) (f : Nat → Int) (a : T) : T := ex n Rg.ic a f
theorem hm1 {m : Int} {n : Nat} {a : T} (ha : lo m 1 a) : Hm m n (fun f => ev1 n f a) := (Hm.int m n).ex ha
structure Lw (m : Int) (n : Nat) (F : Nat → Nat → Int) : Prop where
  two : 2 ≤ n
  zer : F 0 0 = 0
  un : ∀ i, i < n → F i 0 % m = (if i = 1 then 1 else 0) % m
  sy : ∀ i j, i + j < n → F i j % m = F j i % m
  as : ∀ p q k, p + q + k < n → sm n (fun i => F i k * (pw F i : Nat → Nat → Int) p q) % m = sm n (fun j => F p j * (pw F j : Nat → Nat → Int) q k) % m
end gen
end Go.Proofs.Ytcjinlfgeljmkaa
