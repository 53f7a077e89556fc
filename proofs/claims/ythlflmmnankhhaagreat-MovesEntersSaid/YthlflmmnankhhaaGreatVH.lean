import Derived.Test.YthlflmmnankhhaaGreatVF
set_option linter.all false
namespace Go.VL
section
variable {P : Program} {nt : Nat} {F : Fr} {S : Store} {K : Option V -> Store -> Prop}
variable {d : Option Tmp} {ty : TypeId} {pos : String} {af : Array Edge} {gd : Option (Nat × Bool)}
end
section
variable {P : Program} {nt : Nat} {G : Type} {ops : List Oper} {F0 : Fr} {ps : List DP} {un : List Nat} {S0 : Store}
variable {i : Nat} {o : Oper} {acc : List (DRes G)} {R : DRes G} {St : List Nat -> (Nat -> G) -> Store}
end
end Go.VL
