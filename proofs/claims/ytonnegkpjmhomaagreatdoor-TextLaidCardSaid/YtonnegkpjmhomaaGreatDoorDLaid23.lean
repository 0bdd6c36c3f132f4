import Derived.Test.YtonnegkpjmhomaaGreatDoorDLaid21
import Derived.Test.YtonnegkpjmhomaaGreatDoorDLaid22
set_option linter.all false
section
namespace Go.Proofs.YtonnegkpjmhomaaGreatDoorW.PrintLast
open Go.Proofs.YtonnegkpjmhomaaGreatDoorW.PrintWords (Aside0)
section
variable {md : Region.Mode} {ops : Array Oper} {T : Bool × List (List Nat × List Nat)} {l l' li lj lk : Array Bool} {ds : List Nat} {i j k : Nat}
theorem gd (l : Array Bool) (j : Nat) (b : Bool) : l.getD j b = l.toList.getD j b := by simp [Array.getD_eq_getD_getElem?, List.getD_eq_getElem?_getD]
end
end Go.Proofs.YtonnegkpjmhomaaGreatDoorW.PrintLast
end
section
namespace Go.Proofs.YtonnegkpjmhomaaGreatDoorW.PrintLast
section
variable {P : Program} {ops : Array Oper} {Q : Exit → Act → World → Prop} {md : Region.Mode} {T : Bool × List (List Nat × List Nat)} {B : List Nat} {O : List Nat} {b : Nat → Bool} {i j n : Nat}
def Closed (T : List (List Nat × List Nat)) (O : List Nat) (b : Nat → Bool) : Prop := ∀ d r, T[d]? = some r → O.contains d = true → b d = true → ∀ n ∈ r.1, O.contains n = true → b n = true
end
end Go.Proofs.YtonnegkpjmhomaaGreatDoorW.PrintLast
end
