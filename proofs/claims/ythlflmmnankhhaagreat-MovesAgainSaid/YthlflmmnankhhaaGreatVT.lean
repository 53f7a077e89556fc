import Derived.Test.YthlflmmnankhhaaGreatVY2
import Derived.Test.YthlflmmnankhhaaGreatProg
set_option linter.all false
namespace Go.Proofs.YthlflmmnankhhaaGreat.VT
open Go.VL Tryz
theorem ty1:BI prog 1:=⟨⟨_,underlying1,rfl⟩,by kernel_rfl⟩
theorem ty2:BI prog 2:=⟨⟨_,underlying2,rfl⟩,by kernel_rfl⟩
theorem ty3:BI prog 3:=⟨⟨_,underlying3,rfl⟩,by kernel_rfl⟩
theorem zr3:(prog.info? 3).map (·.zero)=some (some (.int .i64 0)):=by kernel_rfl
theorem ty4:BI prog 4:=⟨⟨_,underlying4,rfl⟩,by kernel_rfl⟩
theorem ty22:BI prog 22:=⟨⟨_,underlying22,rfl⟩,by kernel_rfl⟩
theorem sl22:A8 prog 22 31 2 32 (.agg #[(.int .i64 0),(.slice none 0 0)]):=⟨underlying22,C5 (by kernel_rfl),rfl,by decide⟩
theorem ty24:EZ prog 24 2:=⟨⟨_,underlying24,rfl⟩,by kernel_rfl⟩
theorem fa24_0:AR prog 24 0 0 1 false:=⟨⟨_,_,underlying24,rfl,rfl,by kernel_rfl,⟨_,underlying22,rfl⟩,by decide⟩⟩
theorem fa24_1:AR prog 24 1 1 1 false:=⟨⟨_,_,underlying24,rfl,rfl,by kernel_rfl,⟨_,underlying3,rfl⟩,by decide⟩⟩
def zs24:List V:= [(.raw (.slice none 0 0)),(.raw (.int .i64 0))]
theorem st24:CE prog 24 [(0,1),(1,1)] zs24:=by
  obtain⟨i,h1,h2⟩:∃i,prog.info? 24=some i ∧ i.zero=some (.agg #[(.slice none 0 0),(.int .i64 0)]):=Ci (by kernel_rfl);exact ⟨⟨_,i,_,underlying24,h1,h2,by kernel_rfl,rfl⟩,rfl⟩
theorem zr24:(prog.info? 24).map (·.zero)=some (some (.agg #[(.slice none 0 0),(.int .i64 0)])):=by kernel_rfl
theorem ty29:BI prog 29:=⟨⟨_,underlying29,rfl⟩,by kernel_rfl⟩
theorem sl29:A8 prog 29 40 7 120 (.agg #[(.slice none 0 0),(.slice none 0 0),(.int .i64 0),(.int .i64 0),(.int .i64 0),(.slice none 0 0),(.slice none 0 0)]):=⟨underlying29,C5 (by kernel_rfl),rfl,by decide⟩
theorem ty31:EZ prog 31 2:=⟨⟨_,underlying31,rfl⟩,by kernel_rfl⟩
theorem fa31_0:AR prog 31 0 0 1 false:=⟨⟨_,_,underlying31,rfl,rfl,by kernel_rfl,⟨_,underlying3,rfl⟩,by decide⟩⟩
theorem fa31_1:AR prog 31 1 1 1 false:=⟨⟨_,_,underlying31,rfl,rfl,by kernel_rfl,⟨_,underlying29,rfl⟩,by decide⟩⟩
def zs31:List V:= [(.raw (.int .i64 0)),(.raw (.slice none 0 0))]
theorem st31:CE prog 31 [(0,1),(1,1)] zs31:=by
  obtain⟨i,h1,h2⟩:∃i,prog.info? 31=some i ∧ i.zero=some (.agg #[(.int .i64 0),(.slice none 0 0)]):=Ci (by kernel_rfl);exact ⟨⟨_,i,_,underlying31,h1,h2,by kernel_rfl,rfl⟩,rfl⟩
theorem zr31:(prog.info? 31).map (·.zero)=some (some (.agg #[(.int .i64 0),(.slice none 0 0)])):=by kernel_rfl
theorem ty32:BI prog 32:=⟨⟨_,underlying32,rfl⟩,by kernel_rfl⟩
theorem zr32:(prog.info? 32).map (·.zero)=some (some (.slice none 0 0)):=by kernel_rfl
theorem sl32:A8 prog 32 3 1 8 (.int .i64 0):=⟨underlying32,C5 (by kernel_rfl),rfl,by decide⟩
theorem ty35:BI prog 35:=⟨⟨_,underlying35,rfl⟩,by kernel_rfl⟩
theorem sl35:A8 prog 35 42 4 48 (.agg #[(.int .i64 0),(.int .i64 0),(.int .i64 0),(.slice none 0 0)]):=⟨underlying35,C5 (by kernel_rfl),rfl,by decide⟩
theorem ty36:BI prog 36:=⟨⟨_,underlying36,rfl⟩,by kernel_rfl⟩
theorem sl36:A8 prog 36 64 2 32 (.agg #[(.int .i64 0),(.slice none 0 0)]):=⟨underlying36,C5 (by kernel_rfl),rfl,by decide⟩
theorem ty38:EZ prog 38 5:=⟨⟨_,underlying38,rfl⟩,by kernel_rfl⟩
theorem fa38_0:AR prog 38 0 0 1 false:=⟨⟨_,_,underlying38,rfl,rfl,by kernel_rfl,⟨_,underlying3,rfl⟩,by decide⟩⟩
theorem fa38_1:AR prog 38 1 1 1 false:=⟨⟨_,_,underlying38,rfl,rfl,by kernel_rfl,⟨_,underlying3,rfl⟩,by decide⟩⟩
theorem fa38_2:AR prog 38 2 2 1 false:=⟨⟨_,_,underlying38,rfl,rfl,by kernel_rfl,⟨_,underlying3,rfl⟩,by decide⟩⟩
theorem fa38_3:AR prog 38 3 3 1 false:=⟨⟨_,_,underlying38,rfl,rfl,by kernel_rfl,⟨_,underlying32,rfl⟩,by decide⟩⟩
theorem fa38_4:AR prog 38 4 4 1 false:=⟨⟨_,_,underlying38,rfl,rfl,by kernel_rfl,⟨_,underlying36,rfl⟩,by decide⟩⟩
def zs38:List V:= [(.raw (.int .i64 0)),(.raw (.int .i64 0)),(.raw (.int .i64 0)),(.raw (.slice none 0 0)),(.raw (.slice none 0 0))]
theorem st38:CE prog 38 [(0,1),(1,1),(2,1),(3,1),(4,1)] zs38:=by
  obtain⟨i,h1,h2⟩:∃i,prog.info? 38=some i ∧ i.zero=some (.agg #[(.int .i64 0),(.int .i64 0),(.int .i64 0),(.slice none 0 0),(.slice none 0 0)]):=Ci (by kernel_rfl);exact ⟨⟨_,i,_,underlying38,h1,h2,by kernel_rfl,rfl⟩,rfl⟩
theorem zr38:(prog.info? 38).map (·.zero)=some (some (.agg #[(.int .i64 0),(.int .i64 0),(.int .i64 0),(.slice none 0 0),(.slice none 0 0)])):=by kernel_rfl
theorem ty40:EZ prog 40 7:=⟨⟨_,underlying40,rfl⟩,by kernel_rfl⟩
theorem fa40_0:AR prog 40 0 0 1 false:=⟨⟨_,_,underlying40,rfl,rfl,by kernel_rfl,⟨_,underlying32,rfl⟩,by decide⟩⟩
theorem fa40_1:AR prog 40 1 1 1 false:=⟨⟨_,_,underlying40,rfl,rfl,by kernel_rfl,⟨_,underlying35,rfl⟩,by decide⟩⟩
theorem fa40_2:AR prog 40 2 2 5 true:=⟨⟨_,_,underlying40,rfl,rfl,by kernel_rfl,⟨_,underlying38,rfl⟩,by decide⟩⟩
def zs40:List V:= [(.raw (.slice none 0 0)),(.raw (.slice none 0 0)),(.raw (.int .i64 0)),(.raw (.int .i64 0)),(.raw (.int .i64 0)),(.raw (.slice none 0 0)),(.raw (.slice none 0 0))]
theorem st40:CE prog 40 [(0,1),(1,1),(2,5)] zs40:=by
  obtain⟨i,h1,h2⟩:∃i,prog.info? 40=some i ∧ i.zero=some (.agg #[(.slice none 0 0),(.slice none 0 0),(.int .i64 0),(.int .i64 0),(.int .i64 0),(.slice none 0 0),(.slice none 0 0)]):=Ci (by kernel_rfl);exact ⟨⟨_,i,_,underlying40,h1,h2,by kernel_rfl,rfl⟩,rfl⟩
theorem zr40:(prog.info? 40).map (·.zero)=some (some (.agg #[(.slice none 0 0),(.slice none 0 0),(.int .i64 0),(.int .i64 0),(.int .i64 0),(.slice none 0 0),(.slice none 0 0)])):=by kernel_rfl
theorem ty42:EZ prog 42 4:=⟨⟨_,underlying42,rfl⟩,by kernel_rfl⟩
theorem fa42_0:AR prog 42 0 0 1 false:=⟨⟨_,_,underlying42,rfl,rfl,by kernel_rfl,⟨_,underlying3,rfl⟩,by decide⟩⟩
theorem fa42_1:AR prog 42 1 1 1 false:=⟨⟨_,_,underlying42,rfl,rfl,by kernel_rfl,⟨_,underlying3,rfl⟩,by decide⟩⟩
theorem fa42_2:AR prog 42 2 2 1 false:=⟨⟨_,_,underlying42,rfl,rfl,by kernel_rfl,⟨_,underlying3,rfl⟩,by decide⟩⟩
theorem fa42_3:AR prog 42 3 3 1 false:=⟨⟨_,_,underlying42,rfl,rfl,by kernel_rfl,⟨_,underlying32,rfl⟩,by decide⟩⟩
def zs42:List V:= [(.raw (.int .i64 0)),(.raw (.int .i64 0)),(.raw (.int .i64 0)),(.raw (.slice none 0 0))]
theorem st42:CE prog 42 [(0,1),(1,1),(2,1),(3,1)] zs42:=by
  obtain⟨i,h1,h2⟩:∃i,prog.info? 42=some i ∧ i.zero=some (.agg #[(.int .i64 0),(.int .i64 0),(.int .i64 0),(.slice none 0 0)]):=Ci (by kernel_rfl);exact ⟨⟨_,i,_,underlying42,h1,h2,by kernel_rfl,rfl⟩,rfl⟩
theorem zr42:(prog.info? 42).map (·.zero)=some (some (.agg #[(.int .i64 0),(.int .i64 0),(.int .i64 0),(.slice none 0 0)])):=by kernel_rfl
theorem ty46:EZ prog 46 3:=⟨⟨_,underlying46,rfl⟩,by kernel_rfl⟩
theorem fa46_0:AR prog 46 0 0 1 false:=⟨⟨_,_,underlying46,rfl,rfl,by kernel_rfl,⟨_,underlying32,rfl⟩,by decide⟩⟩
theorem fa46_1:AR prog 46 1 1 1 false:=⟨⟨_,_,underlying46,rfl,rfl,by kernel_rfl,⟨_,underlying3,rfl⟩,by decide⟩⟩
theorem fa46_2:AR prog 46 2 2 1 false:=⟨⟨_,_,underlying46,rfl,rfl,by kernel_rfl,⟨_,underlying3,rfl⟩,by decide⟩⟩
def zs46:List V:= [(.raw (.slice none 0 0)),(.raw (.int .i64 0)),(.raw (.int .i64 0))]
theorem st46:CE prog 46 [(0,1),(1,1),(2,1)] zs46:=by
  obtain⟨i,h1,h2⟩:∃i,prog.info? 46=some i ∧ i.zero=some (.agg #[(.slice none 0 0),(.int .i64 0),(.int .i64 0)]):=Ci (by kernel_rfl);exact ⟨⟨_,i,_,underlying46,h1,h2,by kernel_rfl,rfl⟩,rfl⟩
theorem zr46:(prog.info? 46).map (·.zero)=some (some (.agg #[(.slice none 0 0),(.int .i64 0),(.int .i64 0)])):=by kernel_rfl
theorem ty64:EZ prog 64 2:=⟨⟨_,underlying64,rfl⟩,by kernel_rfl⟩
theorem fa64_0:AR prog 64 0 0 1 false:=⟨⟨_,_,underlying64,rfl,rfl,by kernel_rfl,⟨_,underlying3,rfl⟩,by decide⟩⟩
theorem fa64_1:AR prog 64 1 1 1 false:=⟨⟨_,_,underlying64,rfl,rfl,by kernel_rfl,⟨_,underlying32,rfl⟩,by decide⟩⟩
def AgH:List V:= [(.raw (.int .i64 0)),(.raw (.slice none 0 0))]
theorem st64:CE prog 64 [(0,1),(1,1)] AgH:=by
  obtain⟨i,h1,h2⟩:∃i,prog.info? 64=some i ∧ i.zero=some (.agg #[(.int .i64 0),(.slice none 0 0)]):=Ci (by kernel_rfl);exact ⟨⟨_,i,_,underlying64,h1,h2,by kernel_rfl,rfl⟩,rfl⟩
theorem zr64:(prog.info? 64).map (·.zero)=some (some (.agg #[(.int .i64 0),(.slice none 0 0)])):=by kernel_rfl
theorem ty69:BI prog 69:=⟨⟨_,underlying69,rfl⟩,by kernel_rfl⟩
theorem sl69:A8 prog 69 32 1 24 (.slice none 0 0):=⟨underlying69,C5 (by kernel_rfl),rfl,by decide⟩
theorem ty71:EZ prog 71 4:=⟨⟨_,underlying71,rfl⟩,by kernel_rfl⟩
theorem fa71_0:AR prog 71 0 0 2 true:=⟨⟨_,_,underlying71,rfl,rfl,by kernel_rfl,⟨_,underlying31,rfl⟩,by decide⟩⟩
theorem fa71_1:AR prog 71 1 2 1 false:=⟨⟨_,_,underlying71,rfl,rfl,by kernel_rfl,⟨_,underlying32,rfl⟩,by decide⟩⟩
theorem fa71_2:AR prog 71 2 3 1 false:=⟨⟨_,_,underlying71,rfl,rfl,by kernel_rfl,⟨_,underlying69,rfl⟩,by decide⟩⟩
def zs71:List V:= [(.raw (.int .i64 0)),(.raw (.slice none 0 0)),(.raw (.slice none 0 0)),(.raw (.slice none 0 0))]
theorem st71:CE prog 71 [(0,2),(2,1),(3,1)] zs71:=by
  obtain⟨i,h1,h2⟩:∃i,prog.info? 71=some i ∧ i.zero=some (.agg #[(.int .i64 0),(.slice none 0 0),(.slice none 0 0),(.slice none 0 0)]):=Ci (by kernel_rfl);exact ⟨⟨_,i,_,underlying71,h1,h2,by kernel_rfl,rfl⟩,rfl⟩
theorem zr71:(prog.info? 71).map (·.zero)=some (some (.agg #[(.int .i64 0),(.slice none 0 0),(.slice none 0 0),(.slice none 0 0)])):=by kernel_rfl
theorem ty75:BI prog 75:=⟨⟨_,underlying75,rfl⟩,by kernel_rfl⟩
theorem sl75:A8 prog 75 103 1 24 (.slice none 0 0):=⟨underlying75,C5 (by kernel_rfl),rfl,by decide⟩
theorem ty77:BI prog 77:=⟨⟨_,underlying77,rfl⟩,by kernel_rfl⟩
theorem sl77:A8 prog 77 106 1 8 (.map none):=⟨underlying77,C5 (by kernel_rfl),rfl,by decide⟩
theorem fa79_0:AR prog 79 0 0 4 true:=⟨⟨_,_,underlying79,rfl,rfl,by kernel_rfl,⟨_,underlying71,rfl⟩,by decide⟩⟩
theorem fa79_1:AR prog 79 1 4 1 false:=⟨⟨_,_,underlying79,rfl,rfl,by kernel_rfl,⟨_,underlying75,rfl⟩,by decide⟩⟩
theorem fa79_2:AR prog 79 2 5 1 false:=⟨⟨_,_,underlying79,rfl,rfl,by kernel_rfl,⟨_,underlying3,rfl⟩,by decide⟩⟩
theorem fa79_3:AR prog 79 3 6 2 true:=⟨⟨_,_,underlying79,rfl,rfl,by kernel_rfl,⟨_,underlying31,rfl⟩,by decide⟩⟩
theorem fa79_4:AR prog 79 4 8 1 false:=⟨⟨_,_,underlying79,rfl,rfl,by kernel_rfl,⟨_,underlying77,rfl⟩,by decide⟩⟩
def AgI:List V:= [(.raw (.int .i64 0)),(.raw (.slice none 0 0)),(.raw (.slice none 0 0)),(.raw (.slice none 0 0)),(.raw (.slice none 0 0)),(.raw (.int .i64 0)),(.raw (.int .i64 0)),(.raw (.slice none 0 0)),(.raw (.slice none 0 0))]
theorem st79:CE prog 79 [(0,4),(4,1),(5,1),(6,2),(8,1)] AgI:=by
  obtain⟨i,h1,h2⟩:∃i,prog.info? 79=some i ∧ i.zero=some (.agg #[(.int .i64 0),(.slice none 0 0),(.slice none 0 0),(.slice none 0 0),(.slice none 0 0),(.int .i64 0),(.int .i64 0),(.slice none 0 0),(.slice none 0 0)]):=Ci (by kernel_rfl);exact ⟨⟨_,i,_,underlying79,h1,h2,by kernel_rfl,rfl⟩,rfl⟩
theorem ty88:BI prog 88:=⟨⟨_,underlying88,rfl⟩,by kernel_rfl⟩
theorem ty89:BI prog 89:=⟨⟨_,underlying89,rfl⟩,by kernel_rfl⟩
theorem fa91_0:AR prog 91 0 0 2 true:=⟨⟨_,_,underlying91,rfl,rfl,by kernel_rfl,⟨_,underlying31,rfl⟩,by decide⟩⟩
theorem fa91_1:AR prog 91 1 2 1 false:=⟨⟨_,_,underlying91,rfl,rfl,by kernel_rfl,⟨_,underlying89,rfl⟩,by decide⟩⟩
def AgJ:List V:= [(.raw (.int .i64 0)),(.raw (.slice none 0 0)),(.raw (.map none))]
theorem st91:CE prog 91 [(0,2),(2,1)] AgJ:=by
  obtain⟨i,h1,h2⟩:∃i,prog.info? 91=some i ∧ i.zero=some (.agg #[(.int .i64 0),(.slice none 0 0),(.map none)]):=Ci (by kernel_rfl);exact ⟨⟨_,i,_,underlying91,h1,h2,by kernel_rfl,rfl⟩,rfl⟩
theorem ty95:BI prog 95:=⟨⟨_,underlying95,rfl⟩,by kernel_rfl⟩
theorem sl95:A8 prog 95 140 1 8 (.pointer none):=⟨underlying95,C5 (by kernel_rfl),rfl,by decide⟩
theorem fa97_0:AR prog 97 0 0 2 true:=⟨⟨_,_,underlying97,rfl,rfl,by kernel_rfl,⟨_,underlying24,rfl⟩,by decide⟩⟩
theorem fa97_1:AR prog 97 1 2 1 false:=⟨⟨_,_,underlying97,rfl,rfl,by kernel_rfl,⟨_,underlying95,rfl⟩,by decide⟩⟩
theorem fa97_2:AR prog 97 2 3 1 false:=⟨⟨_,_,underlying97,rfl,rfl,by kernel_rfl,⟨_,underlying3,rfl⟩,by decide⟩⟩
theorem fa97_3:AR prog 97 3 4 1 false:=⟨⟨_,_,underlying97,rfl,rfl,by kernel_rfl,⟨_,underlying4,rfl⟩,by decide⟩⟩
theorem fa97_4:AR prog 97 4 5 1 false:=⟨⟨_,_,underlying97,rfl,rfl,by kernel_rfl,⟨_,underlying4,rfl⟩,by decide⟩⟩
theorem fa97_5:AR prog 97 5 6 3 true:=⟨⟨_,_,underlying97,rfl,rfl,by kernel_rfl,⟨_,underlying46,rfl⟩,by decide⟩⟩
def AgK:List V:= [(.raw (.slice none 0 0)),(.raw (.int .i64 0)),(.raw (.slice none 0 0)),(.raw (.int .i64 0)),(.raw (.bool false)),(.raw (.bool false)),(.raw (.slice none 0 0)),(.raw (.int .i64 0)),(.raw (.int .i64 0))]
theorem st97:CE prog 97 [(0,2),(2,1),(3,1),(4,1),(5,1),(6,3)] AgK:=by
  obtain⟨i,h1,h2⟩:∃i,prog.info? 97=some i ∧ i.zero=some (.agg #[(.slice none 0 0),(.int .i64 0),(.slice none 0 0),(.int .i64 0),(.bool false),(.bool false),(.slice none 0 0),(.int .i64 0),(.int .i64 0)]):=Ci (by kernel_rfl);exact ⟨⟨_,i,_,underlying97,h1,h2,by kernel_rfl,rfl⟩,rfl⟩
theorem ty103:BI prog 103:=⟨⟨_,underlying103,rfl⟩,by kernel_rfl⟩
theorem sl103:A8 prog 103 4 1 1 (.bool false):=⟨underlying103,C5 (by kernel_rfl),rfl,by decide⟩
theorem ty106:BI prog 106:=⟨⟨_,underlying106,rfl⟩,by kernel_rfl⟩
theorem fa111_0:AR prog 111 0 0 1 false:=⟨⟨_,_,underlying111,rfl,rfl,by kernel_rfl,⟨_,underlying3,rfl⟩,by decide⟩⟩
theorem fa111_1:AR prog 111 1 1 1 false:=⟨⟨_,_,underlying111,rfl,rfl,by kernel_rfl,⟨_,underlying3,rfl⟩,by decide⟩⟩
def Af1:List V:= [(.raw (.int .i64 0)),(.raw (.int .i64 0))]
theorem st111:CE prog 111 [(0,1),(1,1)] Af1:=by
  obtain⟨i,h1,h2⟩:∃i,prog.info? 111=some i ∧ i.zero=some (.agg #[(.int .i64 0),(.int .i64 0)]):=Ci (by kernel_rfl);exact ⟨⟨_,i,_,underlying111,h1,h2,by kernel_rfl,rfl⟩,rfl⟩
theorem sl112:A8 prog 112 111 2 16 (.agg #[(.int .i64 0),(.int .i64 0)]):=⟨underlying112,C5 (by kernel_rfl),rfl,by decide⟩
theorem ty126:BI prog 126:=⟨⟨_,underlying126,rfl⟩,by kernel_rfl⟩
theorem ty131:EZ prog 131 2:=⟨⟨_,underlying131,rfl⟩,by kernel_rfl⟩
theorem fa131_0:AR prog 131 0 0 1 false:=⟨⟨_,_,underlying131,rfl,rfl,by kernel_rfl,⟨_,underlying3,rfl⟩,by decide⟩⟩
theorem fa131_1:AR prog 131 1 1 1 false:=⟨⟨_,_,underlying131,rfl,rfl,by kernel_rfl,⟨_,underlying3,rfl⟩,by decide⟩⟩
def zs131:List V:= [(.raw (.int .i64 0)),(.raw (.int .i64 0))]
theorem st131:CE prog 131 [(0,1),(1,1)] zs131:=by
  obtain⟨i,h1,h2⟩:∃i,prog.info? 131=some i ∧ i.zero=some (.agg #[(.int .i64 0),(.int .i64 0)]):=Ci (by kernel_rfl);exact ⟨⟨_,i,_,underlying131,h1,h2,by kernel_rfl,rfl⟩,rfl⟩
theorem zr131:(prog.info? 131).map (·.zero)=some (some (.agg #[(.int .i64 0),(.int .i64 0)])):=by kernel_rfl
theorem ty132:BI prog 132:=⟨⟨_,underlying132,rfl⟩,by kernel_rfl⟩
theorem zr132:(prog.info? 132).map (·.zero)=some (some (.slice none 0 0)):=by kernel_rfl
theorem sl132:A8 prog 132 134 2 16 (.agg #[(.int .u64 0),(.int .u64 0)]):=⟨underlying132,C5 (by kernel_rfl),rfl,by decide⟩
theorem ty134:EZ prog 134 2:=⟨⟨_,underlying134,rfl⟩,by kernel_rfl⟩
def zs134:List V:= [(.raw (.int .u64 0)),(.raw (.int .u64 0))]
theorem at134:Vi prog 134 2 126 1 zs134:=ZJ (cs:= [.int .u64 0, .int .u64 0]) underlying134 (by kernel_rfl) (by kernel_rfl) rfl rfl
theorem se134:(prog.info? 126).map (·.size)=some 1:=by kernel_rfl
theorem zr134:(prog.info? 134).map (·.zero)=some (some (.agg #[(.int .u64 0),(.int .u64 0)])):=by kernel_rfl
theorem ty139:BI prog 139:=⟨⟨_,underlying139,rfl⟩,by kernel_rfl⟩
theorem zr139:(prog.info? 139).map (·.zero)=some (some (.slice none 0 0)):=by kernel_rfl
theorem sl139:A8 prog 139 146 4 48 (.agg #[(.int .i64 0),(.int .i64 0),(.slice none 0 0),(.pointer none)]):=⟨underlying139,C5 (by kernel_rfl),rfl,by decide⟩
theorem ty140:BI prog 140:=⟨⟨_,underlying140,rfl⟩,by kernel_rfl⟩
theorem ty141:BI prog 141:=⟨⟨_,underlying141,rfl⟩,by kernel_rfl⟩
theorem fa143_0:AR prog 143 0 0 1 false:=⟨⟨_,_,underlying143,rfl,rfl,by kernel_rfl,⟨_,underlying3,rfl⟩,by decide⟩⟩
theorem fa143_1:AR prog 143 1 1 1 false:=⟨⟨_,_,underlying143,rfl,rfl,by kernel_rfl,⟨_,underlying3,rfl⟩,by decide⟩⟩
theorem fa143_2:AR prog 143 2 2 1 false:=⟨⟨_,_,underlying143,rfl,rfl,by kernel_rfl,⟨_,underlying3,rfl⟩,by decide⟩⟩
theorem fa143_3:AR prog 143 3 3 1 false:=⟨⟨_,_,underlying143,rfl,rfl,by kernel_rfl,⟨_,underlying3,rfl⟩,by decide⟩⟩
theorem fa143_4:AR prog 143 4 4 1 false:=⟨⟨_,_,underlying143,rfl,rfl,by kernel_rfl,⟨_,underlying141,rfl⟩,by decide⟩⟩
def Af2:List V:= [(.raw (.int .i64 0)),(.raw (.int .i64 0)),(.raw (.int .i64 0)),(.raw (.int .i64 0)),(.raw (.map none))]
theorem st143:CE prog 143 [(0,1),(1,1),(2,1),(3,1),(4,1)] Af2:=by
  obtain⟨i,h1,h2⟩:∃i,prog.info? 143=some i ∧ i.zero=some (.agg #[(.int .i64 0),(.int .i64 0),(.int .i64 0),(.int .i64 0),(.map none)]):=Ci (by kernel_rfl);exact ⟨⟨_,i,_,underlying143,h1,h2,by kernel_rfl,rfl⟩,rfl⟩
theorem ty144:BI prog 144:=⟨⟨_,underlying144,rfl⟩,by kernel_rfl⟩
theorem ty146:EZ prog 146 4:=⟨⟨_,underlying146,rfl⟩,by kernel_rfl⟩
theorem fa146_0:AR prog 146 0 0 1 false:=⟨⟨_,_,underlying146,rfl,rfl,by kernel_rfl,⟨_,underlying3,rfl⟩,by decide⟩⟩
theorem fa146_1:AR prog 146 1 1 1 false:=⟨⟨_,_,underlying146,rfl,rfl,by kernel_rfl,⟨_,underlying3,rfl⟩,by decide⟩⟩
theorem fa146_2:AR prog 146 2 2 1 false:=⟨⟨_,_,underlying146,rfl,rfl,by kernel_rfl,⟨_,underlying139,rfl⟩,by decide⟩⟩
theorem fa146_3:AR prog 146 3 3 1 false:=⟨⟨_,_,underlying146,rfl,rfl,by kernel_rfl,⟨_,underlying144,rfl⟩,by decide⟩⟩
def zs146:List V:= [(.raw (.int .i64 0)),(.raw (.int .i64 0)),(.raw (.slice none 0 0)),(.raw (.pointer none))]
theorem st146:CE prog 146 [(0,1),(1,1),(2,1),(3,1)] zs146:=by
  obtain⟨i,h1,h2⟩:∃i,prog.info? 146=some i ∧ i.zero=some (.agg #[(.int .i64 0),(.int .i64 0),(.slice none 0 0),(.pointer none)]):=Ci (by kernel_rfl);exact ⟨⟨_,i,_,underlying146,h1,h2,by kernel_rfl,rfl⟩,rfl⟩
theorem zr146:(prog.info? 146).map (·.zero)=some (some (.agg #[(.int .i64 0),(.int .i64 0),(.slice none 0 0),(.pointer none)])):=by kernel_rfl
theorem ty152:BI prog 152:=⟨⟨_,underlying152,rfl⟩,by kernel_rfl⟩
theorem zr152:(prog.info? 152).map (·.zero)=some (some (.slice none 0 0)):=by kernel_rfl
theorem sl152:A8 prog 152 153 2 16 (.agg #[(.int .i64 0),(.int .i64 0)]):=⟨underlying152,C5 (by kernel_rfl),rfl,by decide⟩
theorem ty153:EZ prog 153 2:=⟨⟨_,underlying153,rfl⟩,by kernel_rfl⟩
def Af3:List V:= [(.raw (.int .i64 0)),(.raw (.int .i64 0))]
theorem at153:Vi prog 153 2 3 1 Af3:=ZJ (cs:= [.int .i64 0, .int .i64 0]) underlying153 (by kernel_rfl) (by kernel_rfl) rfl rfl
theorem se153:(prog.info? 3).map (·.size)=some 1:=by kernel_rfl
theorem zr153:(prog.info? 153).map (·.zero)=some (some (.agg #[(.int .i64 0),(.int .i64 0)])):=by kernel_rfl
theorem en6:Enters prog 6:=⟨⟨_,func6,by kernel_rfl,by kernel_rfl⟩⟩
theorem en7:Enters prog 7:=⟨⟨_,func7,by kernel_rfl,by kernel_rfl⟩⟩
theorem en8:Enters prog 8:=⟨⟨_,func8,by kernel_rfl,by kernel_rfl⟩⟩
theorem en9:Enters prog 9:=⟨⟨_,func9,by kernel_rfl,by kernel_rfl⟩⟩
theorem en10:Enters prog 10:=⟨⟨_,func10,by kernel_rfl,by kernel_rfl⟩⟩
theorem en11:Enters prog 11:=⟨⟨_,func11,by kernel_rfl,by kernel_rfl⟩⟩
theorem en13:Enters prog 13:=⟨⟨_,func13,by kernel_rfl,by kernel_rfl⟩⟩
theorem en14:Enters prog 14:=⟨⟨_,func14,by kernel_rfl,by kernel_rfl⟩⟩
theorem en15:Enters prog 15:=⟨⟨_,func15,by kernel_rfl,by kernel_rfl⟩⟩
theorem en16:Enters prog 16:=⟨⟨_,func16,by kernel_rfl,by kernel_rfl⟩⟩
theorem en17:Enters prog 17:=⟨⟨_,func17,by kernel_rfl,by kernel_rfl⟩⟩
theorem en18:Enters prog 18:=⟨⟨_,func18,by kernel_rfl,by kernel_rfl⟩⟩
theorem en19:Enters prog 19:=⟨⟨_,func19,by kernel_rfl,by kernel_rfl⟩⟩
theorem en20:Enters prog 20:=⟨⟨_,func20,by kernel_rfl,by kernel_rfl⟩⟩
theorem en21:Enters prog 21:=⟨⟨_,func21,by kernel_rfl,by kernel_rfl⟩⟩
theorem en22:Enters prog 22:=⟨⟨_,func22,by kernel_rfl,by kernel_rfl⟩⟩
theorem en23:Enters prog 23:=⟨⟨_,func23,by kernel_rfl,by kernel_rfl⟩⟩
theorem en24:Enters prog 24:=⟨⟨_,func24,by kernel_rfl,by kernel_rfl⟩⟩
theorem en25:Enters prog 25:=⟨⟨_,func25,by kernel_rfl,by kernel_rfl⟩⟩
theorem en26:Enters prog 26:=⟨⟨_,func26,by kernel_rfl,by kernel_rfl⟩⟩
theorem en27:Enters prog 27:=⟨⟨_,func27,by kernel_rfl,by kernel_rfl⟩⟩
theorem en28:Enters prog 28:=⟨⟨_,func28,by kernel_rfl,by kernel_rfl⟩⟩
theorem en29:Enters prog 29:=⟨⟨_,func29,by kernel_rfl,by kernel_rfl⟩⟩
theorem en30:Enters prog 30:=⟨⟨_,func30,by kernel_rfl,by kernel_rfl⟩⟩
theorem en31:Enters prog 31:=⟨⟨_,func31,by kernel_rfl,by kernel_rfl⟩⟩
theorem en32:Enters prog 32:=⟨⟨_,func32,by kernel_rfl,by kernel_rfl⟩⟩
theorem en33:Enters prog 33:=⟨⟨_,func33,by kernel_rfl,by kernel_rfl⟩⟩
theorem en34:Enters prog 34:=⟨⟨_,func34,by kernel_rfl,by kernel_rfl⟩⟩
theorem en35:Enters prog 35:=⟨⟨_,func35,by kernel_rfl,by kernel_rfl⟩⟩
theorem en36:Enters prog 36:=⟨⟨_,func36,by kernel_rfl,by kernel_rfl⟩⟩
theorem en37:Enters prog 37:=⟨⟨_,func37,by kernel_rfl,by kernel_rfl⟩⟩
theorem en38:Enters prog 38:=⟨⟨_,func38,by kernel_rfl,by kernel_rfl⟩⟩
theorem en39:Enters prog 39:=⟨⟨_,func39,by kernel_rfl,by kernel_rfl⟩⟩
theorem en40:Enters prog 40:=⟨⟨_,func40,by kernel_rfl,by kernel_rfl⟩⟩
theorem en43:Enters prog 43:=⟨⟨_,func43,by kernel_rfl,by kernel_rfl⟩⟩
theorem en44:Enters prog 44:=⟨⟨_,func44,by kernel_rfl,by kernel_rfl⟩⟩
theorem en45:Enters prog 45:=⟨⟨_,func45,by kernel_rfl,by kernel_rfl⟩⟩
theorem en46:Enters prog 46:=⟨⟨_,func46,by kernel_rfl,by kernel_rfl⟩⟩
theorem en47:Enters prog 47:=⟨⟨_,func47,by kernel_rfl,by kernel_rfl⟩⟩
theorem en48:Enters prog 48:=⟨⟨_,func48,by kernel_rfl,by kernel_rfl⟩⟩
theorem en49:Enters prog 49:=⟨⟨_,func49,by kernel_rfl,by kernel_rfl⟩⟩
theorem en50:Enters prog 50:=⟨⟨_,func50,by kernel_rfl,by kernel_rfl⟩⟩
theorem en51:Enters prog 51:=⟨⟨_,func51,by kernel_rfl,by kernel_rfl⟩⟩
theorem en52:Enters prog 52:=⟨⟨_,func52,by kernel_rfl,by kernel_rfl⟩⟩
theorem en53:Enters prog 53:=⟨⟨_,func53,by kernel_rfl,by kernel_rfl⟩⟩
theorem en54:Enters prog 54:=⟨⟨_,func54,by kernel_rfl,by kernel_rfl⟩⟩
theorem en55:Enters prog 55:=⟨⟨_,func55,by kernel_rfl,by kernel_rfl⟩⟩
theorem en56:Enters prog 56:=⟨⟨_,func56,by kernel_rfl,by kernel_rfl⟩⟩
theorem en57:Enters prog 57:=⟨⟨_,func57,by kernel_rfl,by kernel_rfl⟩⟩
theorem en58:Enters prog 58:=⟨⟨_,func58,by kernel_rfl,by kernel_rfl⟩⟩
theorem en59:Enters prog 59:=⟨⟨_,func59,by kernel_rfl,by kernel_rfl⟩⟩
theorem en60:Enters prog 60:=⟨⟨_,func60,by kernel_rfl,by kernel_rfl⟩⟩
theorem en61:Enters prog 61:=⟨⟨_,func61,by kernel_rfl,by kernel_rfl⟩⟩
theorem en73:Enters prog 73:=⟨⟨_,func73,by kernel_rfl,by kernel_rfl⟩⟩
theorem en74:Enters prog 74:=⟨⟨_,func74,by kernel_rfl,by kernel_rfl⟩⟩
theorem en75:Enters prog 75:=⟨⟨_,func75,by kernel_rfl,by kernel_rfl⟩⟩
theorem en76:Enters prog 76:=⟨⟨_,func76,by kernel_rfl,by kernel_rfl⟩⟩
theorem en77:Enters prog 77:=⟨⟨_,func77,by kernel_rfl,by kernel_rfl⟩⟩
theorem en78:Enters prog 78:=⟨⟨_,func78,by kernel_rfl,by kernel_rfl⟩⟩
theorem en79:Enters prog 79:=⟨⟨_,func79,by kernel_rfl,by kernel_rfl⟩⟩
theorem en80:Enters prog 80:=⟨⟨_,func80,by kernel_rfl,by kernel_rfl⟩⟩
theorem en81:Enters prog 81:=⟨⟨_,func81,by kernel_rfl,by kernel_rfl⟩⟩
theorem en82:Enters prog 82:=⟨⟨_,func82,by kernel_rfl,by kernel_rfl⟩⟩
theorem en83:Enters prog 83:=⟨⟨_,func83,by kernel_rfl,by kernel_rfl⟩⟩
theorem en84:Enters prog 84:=⟨⟨_,func84,by kernel_rfl,by kernel_rfl⟩⟩
theorem en85:Enters prog 85:=⟨⟨_,func85,by kernel_rfl,by kernel_rfl⟩⟩
theorem en86:Enters prog 86:=⟨⟨_,func86,by kernel_rfl,by kernel_rfl⟩⟩
theorem en87:Enters prog 87:=⟨⟨_,func87,by kernel_rfl,by kernel_rfl⟩⟩
theorem en88:Enters prog 88:=⟨⟨_,func88,by kernel_rfl,by kernel_rfl⟩⟩
theorem en89:Enters prog 89:=⟨⟨_,func89,by kernel_rfl,by kernel_rfl⟩⟩
theorem en90:Enters prog 90:=⟨⟨_,func90,by kernel_rfl,by kernel_rfl⟩⟩
theorem en97:Enters prog 97:=⟨⟨_,func97,by kernel_rfl,by kernel_rfl⟩⟩
theorem en98:Enters prog 98:=⟨⟨_,func98,by kernel_rfl,by kernel_rfl⟩⟩
theorem en99:Enters prog 99:=⟨⟨_,func99,by kernel_rfl,by kernel_rfl⟩⟩
theorem en100:Enters prog 100:=⟨⟨_,func100,by kernel_rfl,by kernel_rfl⟩⟩
theorem en101:Enters prog 101:=⟨⟨_,func101,by kernel_rfl,by kernel_rfl⟩⟩
theorem en102:Enters prog 102:=⟨⟨_,func102,by kernel_rfl,by kernel_rfl⟩⟩
theorem en103:Enters prog 103:=⟨⟨_,func103,by kernel_rfl,by kernel_rfl⟩⟩
theorem en104:Enters prog 104:=⟨⟨_,func104,by kernel_rfl,by kernel_rfl⟩⟩
theorem en105:Enters prog 105:=⟨⟨_,func105,by kernel_rfl,by kernel_rfl⟩⟩
theorem en106:Enters prog 106:=⟨⟨_,func106,by kernel_rfl,by kernel_rfl⟩⟩
theorem en107:Enters prog 107:=⟨⟨_,func107,by kernel_rfl,by kernel_rfl⟩⟩
theorem en108:Enters prog 108:=⟨⟨_,func108,by kernel_rfl,by kernel_rfl⟩⟩
theorem en109:Enters prog 109:=⟨⟨_,func109,by kernel_rfl,by kernel_rfl⟩⟩
theorem en110:Enters prog 110:=⟨⟨_,func110,by kernel_rfl,by kernel_rfl⟩⟩
theorem en111:Enters prog 111:=⟨⟨_,func111,by kernel_rfl,by kernel_rfl⟩⟩
theorem en112:Enters prog 112:=⟨⟨_,func112,by kernel_rfl,by kernel_rfl⟩⟩
theorem en113:Enters prog 113:=⟨⟨_,func113,by kernel_rfl,by kernel_rfl⟩⟩
theorem en114:Enters prog 114:=⟨⟨_,func114,by kernel_rfl,by kernel_rfl⟩⟩
theorem en115:Enters prog 115:=⟨⟨_,func115,by kernel_rfl,by kernel_rfl⟩⟩
theorem en116:Enters prog 116:=⟨⟨_,func116,by kernel_rfl,by kernel_rfl⟩⟩
theorem en117:Enters prog 117:=⟨⟨_,func117,by kernel_rfl,by kernel_rfl⟩⟩
theorem en118:Enters prog 118:=⟨⟨_,func118,by kernel_rfl,by kernel_rfl⟩⟩
theorem en119:Enters prog 119:=⟨⟨_,func119,by kernel_rfl,by kernel_rfl⟩⟩
theorem en121:Enters prog 121:=⟨⟨_,func121,by kernel_rfl,by kernel_rfl⟩⟩
theorem en122:Enters prog 122:=⟨⟨_,func122,by kernel_rfl,by kernel_rfl⟩⟩
theorem en123:Enters prog 123:=⟨⟨_,func123,by kernel_rfl,by kernel_rfl⟩⟩
theorem en124:Enters prog 124:=⟨⟨_,func124,by kernel_rfl,by kernel_rfl⟩⟩
theorem en125:Enters prog 125:=⟨⟨_,func125,by kernel_rfl,by kernel_rfl⟩⟩
theorem en126:Enters prog 126:=⟨⟨_,func126,by kernel_rfl,by kernel_rfl⟩⟩
theorem en127:Enters prog 127:=⟨⟨_,func127,by kernel_rfl,by kernel_rfl⟩⟩
theorem en128:Enters prog 128:=⟨⟨_,func128,by kernel_rfl,by kernel_rfl⟩⟩
theorem mix:prog.follows .mixedOrders=true:=by kernel_rfl
end Go.Proofs.YthlflmmnankhhaaGreat.VT
