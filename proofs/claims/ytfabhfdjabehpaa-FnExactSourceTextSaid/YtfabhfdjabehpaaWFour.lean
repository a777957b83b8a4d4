-- TRIMMED: the words that the kit's print.sh wrote for this seat, less what no text of it uses; by a program of this session.
import Derived.Test.YtfabhfdjabehpaaWTab
namespace Go.Proofs.YtfabhfdjabehpaaW.PrintLast
section
variable {P : Program} {ops : Array Oper} {Q : Exit → Act → World → Prop} {md : Region.Mode} {S : World → Prop} {ds : List Nat} {T : Bool × List (List Nat × List Nat)}
end
end Go.Proofs.YtfabhfdjabehpaaW.PrintLast
