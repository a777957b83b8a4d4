-- TRIMMED: the words that the kit's print.sh wrote for this seat, less what no text of it uses; by a program of this session.
import Derived.Test.YtfabhfdjabehpaaWTab
namespace Go.Proofs.YtfabhfdjabehpaaW.PrintLast
def up (b : Nat → Bool) (i : Nat) : Nat → Bool := fun j => if j = i then true else b j
section
variable {P : Program} {ops : Array Oper} {Q : Exit → Act → World → Prop} {md : Region.Mode} {T : Bool × List (List Nat × List Nat)} {B : List Nat} {O : List Nat} {b : Nat → Bool} {i j n : Nat}
end
end Go.Proofs.YtfabhfdjabehpaaW.PrintLast
