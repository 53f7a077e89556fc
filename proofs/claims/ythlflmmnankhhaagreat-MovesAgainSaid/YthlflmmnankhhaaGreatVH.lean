import Derived.Test.YthlflmmnankhhaaGreatVF
set_option linter.all false
namespace Go.VL
section
variable {P:Program}{nt:Nat}{F:Fr}{S:Af}{K:Option V->Af->Prop}
variable {d:Option Tmp}{ty:TypeId}{pos:String}{af:Array Edge}{gd:Option (Nat×Bool)}
end
section
variable {P:Program}{nt:Nat}{G:Type}{ops:List Oper}{F0:Fr}{ps:List DP}{un:List Nat}{S0:Af}
variable {i:Nat}{o:Oper}{acc:List (BL G)}{R:BL G}{St:List Nat->(Nat->G)->Af}
end
end Go.VL
