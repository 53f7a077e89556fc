import Derived.Test.YthlflmmnankhhaaGreatDZ
import Derived.Test.YthlflmmnankhhaaGreatXD
set_option maxRecDepth 100000
set_option maxHeartbeats 8000000
open Go.VL.Drops renaming keep → Dk, drop → Dd
set_option linter.all false
open List renaming drop_length → Ya, mem_of_getElem? → Yb
open Nat renaming zero_le → Yc
namespace Go.Proofs.YthlflmmnankhhaaGreat.X15
open Go.VL Go.SM Go.Proofs.YthlflmmnankhhaaGreat X1 X2 X3 X4 X5 X6 X7 X8 X9 VT Tryz
theorem AfE {i:AQ}(h:D0 i=0)(ho:i.op=13\/i.op=9):0<=i.n:=by
  unfold D0 at h;split at h
  . cases h
  . rw [if_pos (by omega)] at h;exact UP h ho
theorem Fg (v:Int):AP prog 43 [.int v] (.bool (E2 v)):=by
 refine Al (nt:=9) func43 J J J ?_;refine cd<|cb J<|cd<|ca J<|ce J J J<|ca J<|Zj2 (q:=5) J (λ hq5=> ?_)<|λ hq5=> ?_
 .
  refine Zc (Zl J ?_)<|Zy1 hq5;refine Zc (Zj1 J J J ?_)<|Zy1 hq5;refine Zc<|Zs1 J hq5 J<|cb J<|Zf1<|Zg1 J (.tmp J) ?_;exact congrArg V.bool (by unfold E2;first | (simp_all;done) | (simp_all;omega))
 refine Zk1 hq5<|Zk1 hq5<|Zc<|Zt1 J hq5 J<|cb J<|Zf1<|Zg1 J (.tmp J) ?_;exact congrArg V.bool (by unfold E2;first | (simp_all;done) | (simp_all;omega))
theorem AdQ (v:Int):AP prog 74 [.int v] (.bool (!E2 v)):=by
 refine Al (nt:=6) func74 J J J ?_;refine cd<|cb J<|cd<|ca J<|Zc<|Zx1 [.tmp 3] J J en43 (Fg _)<|Zc<|Zl2 J<|cb J<|Zf1<|Zg1 J (.tmp J) ?_;rfl
theorem YY {l:List Int}{tok:Option Tok}{p:Int->Bool}{c:FuncId}{caps:List V}(hen:Enters prog c)(hp:∀x∈l,AP prog c (V.int x::caps) (.bool (p x))):AP prog 97 [.sl 1 tok (l.map V.int), .clo (.func c) caps] (.int (idxOf p l)):=by
 refine Al (nt:=19) func97 J J J ?_;refine cd<|cb J<|Zb<|cd<|ca J<|Zc<|Zd2 (n:=l.length) underlying32 J (by simp)<|λ hl7=>(ca J<|cn<|Zs<|Zi2 (ι:=Nat) (λ k=>l.length - k) (λ k=> [(0,some (.sl 1 tok (l.map V.int))),(1,some (.clo (.func c) caps)),(7,some (.int l.length)),(8,some (.int k))]) (λ k=> []) (λ k=>k<=l.length/\(l.take k).any p=false) 0 ⟨Yc _,J⟩ cv (Zt2 _) ?_);rintro k hA;change k<=l.length/\(l.take k).any p=false at hA;obtain ⟨hk,hany⟩:=hA;refine cd<|cj J J J<|Zb<|Zn1 J (λ h9=> ?_)<|λ h9=> ?_
 .
  obtain⟨x,hr⟩:=Ab l k h9;refine co<|Zb<|Zs<|cd<|ca J<|cb J<|cd<|ca J<|ca J<|ca J<|Zc<|Zz (el:=V.int x) sl32 J J (by omega) (Bn hr)<|λ a14=>(Zc<|Zz1 ty3 J J<|Zc<|CT [.tmp 15] J J J hen (hp x<|Yb hr)<|cn<|Zr1 J (λ h16=> ?_)<|λ h16=> ?_)
  .
   refine cd<|ca J<|cb J<|Zf1<|Za1<|Zd1<|Zd1<|Za1<|Zd1<|Zg1 J (.tmp J) ?_;rw [Gi p hr hany h16]
  refine Zi1<|Zb1<|Zi<|Zd<|cm J J<|ca J<|Za<|Zi ?_;exact ⟨k+1,(by (try simp only []);omega),⟨by omega,Ha hr hany h16⟩,cv,(Drops.nil _)⟩
 have hke:k=l.length:=by omega
 subst hke;rw [List.take_length] at hany;refine Zt<|Ze1<|Ze1<|Zc1<|Zi<|cd<|cb J<|Zf1<|Zg1 J (.tmp J) ?_;rw [El p hany]
theorem YZ {l:List Int}{tok:Option Tok}{p:Int->Bool}{c:FuncId}{caps:List V}(hen:Enters prog c)(hp:∀x∈l,AP prog c (V.int x::caps) (.bool (p x))):AP prog 73 [.sl 1 tok (l.map V.int), .clo (.func c) caps] (.bool (l.any p)):=by
 refine Al (nt:=9) func73 J J J ?_;refine cd<|cb J<|cd<|ca J<|ca J<|Zc<|Zx1 [.tmp 5, .tmp 6] J J en97 (YY hen hp)<|ce J J J<|cb J<|Zf1<|Zg1 J (.tmp J) ?_;rw [H2]
theorem Jk (i:AQ):AP prog 45 [AL i] (.int (D0 i)):=by
 have hr:=D0.eq_def i;refine Al (nt:=26) func45 J J J ?_;refine cd<|Zc<|Zc2 J J<|λ g1=>(cb J<|Zb<|cd<|cf fa42_0 J<|cg 0 ty3 J J J<|Zc<|Zx1 [.tmp 4] J J en43 (Fg _)<|Zc<|Zl2 J<|ca J<|Zj2 (q:=7) J (λ hq7=> ?_)<|λ hq7=> ?_)
 .
  refine Zk0 hq7<|Zk0 hq7<|Zk0 hq7<|Zc<|Zs1 J hq7 J<|cn<|Zp1 J J ?_;rw [if_pos (by rw [hq7,Bool.true_or])] at hr;refine cd<|cb J<|Zf1<|Zd1<|Zg1 J (.tmp J) ?_;rw [hr]
 refine Zc (Zj fa42_3 J ?_)<|Zy0 hq7;refine Zc (Zu 0 ty32 J J J ?_)<|Zy0 hq7;refine Zc (Zx1 [.tmp 9, .func 74] J J en73 (YZ en74<|λ x _=>AdQ x) ?_)<|Zy0 hq7;refine Zc<|Zt1 J hq7 J<|cn<|Zr1 J (λ h11=> ?_)<|λ h11=> ?_
 .
  rw [if_pos (by rw [h11,Bool.or_true])] at hr;refine cd<|cb J<|Zf1<|Zd1<|Zg1 J (.tmp J) ?_;rw [hr]
 rw [if_neg (by rw [hq7,h11];decide)] at hr;refine co<|Zb<|cd<|cf fa42_1 J<|cg 0 ty3 J J J<|cj J J J<|Zm1 J (λ h14=> ?_)<|λ h14=> ?_
 .
  rw [if_pos h14] at hr;refine cd<|Zc<|Zv 0 ty42 J J J<|Zc<|Zx1 [.tmp 15] J J en75 (Ab0 i)<|cb J<|Zf1<|Zd1<|Zg1 J (.tmp J) ?_;rw [hr]
 rw [if_neg (λ h=>h h14)] at hr;refine co<|Zb<|Zs<|cd<|cf fa42_3 J<|cg 0 ty32 J J J<|Zc<|Zd2 (n:=i.args.length) underlying32 J (by simp)<|λ hl20=>(ce J J J<|cb J<|Zm1 J (λ h17=> ?_)<|λ h17=> ?_)
 .
  rw [if_pos h17] at hr;refine cd<|cb J<|Zf1<|Za1<|Zd1<|Zg1 J (.tmp J) ?_;rw [hr]
 rw [if_neg (λ h=>h h17)] at hr;refine cd<|cf fa42_2 J<|cg 0 ty3 J J J<|ce J J J<|cb J<|Zm1 J (λ h22=> ?_)<|λ h22=> ?_
 .
  rw [if_pos h22] at hr;refine cd<|cb J<|Zf1<|Za1<|Zd1<|Zg1 J (.tmp J) ?_;rw [hr]
 rw [if_neg (λ h=>h h22)] at hr;refine Zi1<|Zb1<|Zi<|cd<|cb J<|Zf1<|Zg1 J (.tmp J) ?_;rw [hr]
theorem U8 (f:Ai):AP prog 22 [Bs f] (.int (B6 f)):=by
 have hr:=B6.eq_def f;refine Al (nt:=121) func22 J J J ?_;refine cd<|Zc<|Zc2 rfl rfl<|λ g1=>(Zc<|Zk rfl<|cn<|cd<|Zc<|Zk rfl<|cn<|Zb<|cd<|Zc<|Zj fa31_1 rfl<|Zc<|Zu 0 ty29 rfl rfl rfl<|Zc<|Zd2 (n:=f.qa.length) underlying29 rfl (by simp)<|λ hl16=>(Zc<|Zl rfl<|cn<|Zs<|Zi2 (ι:=Nat×Int) (λ (k,n)=>f.qa.length - k) (λ (k,n)=> [(1,some (.ptr g1 0)),(3,some (.int n)),(15,some (Ae f.qa)),(16,some (.int f.qa.length)),(17,some (.int k))]) (λ (k,n)=> [.cells g1 31 [.int f.name,Ae f.qa]]) (λ (k,n)=>k<=f.qa.length/\BX n (f.qa.drop k)=BX 0 f.qa) (0,0) ⟨Yc _,rfl⟩ cp (Dk<|Zt2 _) ?_));rintro ⟨k,n⟩ hA;change k<=f.qa.length/\BX n (f.qa.drop k)=BX 0 f.qa at hA;obtain ⟨hk,hq⟩:=hA;refine cd<|cj J J J<|Zb<|Zn1 J (λ h18=> ?_)<|λ h18=> ?_
 .
  obtain⟨b,hb⟩:=Ab f.qa k h18;refine co<|Zb<|Zs<|cd<|Zc<|Zz (el:=An b) sl29 J J (by omega) (Aq _ hb)<|λ a19=>(Zc<|Za2 ty40 J J<|Zc<|Zb2 zr40 _ J J<|λ g5=>(Zc<|Zx 0 ty40 J J J J J<|cn<|Zd<|ca J<|cf fa40_1 J<|cg 0 ty35 J J J<|Zc<|Zd2 (n:=b.ins.length) underlying35 J (by simp)<|λ hl24=>(ce J J J<|ci J<|Za<|Zb1<|Zi<|Zd<|cm J J<|ca J<|Za<|Zi ?_)));exact ⟨(k+1,IntKind.i64.wrap (n+b.ins.length)),(by (try simp only []);omega),⟨by omega,by rw [<- hq,Ag hb,BX]⟩,cp,(Dd (Dk (Zt2 _)))⟩
 have hke:k=f.qa.length:=by omega
 subst hke;rw [Ya,BX] at hq;refine Zt<|Ze1<|Ze1<|Zc1<|Zi<|Zb<|Zs<|cd<|cf fa31_1 J<|cg 0 ty29 J J J<|Zc<|Zd2 (n:=f.qa.length) underlying29 J (by simp)<|λ hl30=>(ce J J J<|cb J<|Zl1 J (λ h27=> ?_)<|λ h27=> ?_)
 .
  rw [if_pos h27] at hr;refine cd<|cb J<|Zf1<|Za1<|Zd1<|Zg1 J (.tmp J) ?_
  first | (rw [hfin];done) | (rw [hbad _ hm (by decide)];done) | (rw [hr];done)
 rw [if_neg h27] at hr;obtain ⟨b0,hb0⟩:=Ab f.qa 0 (by omega);have hp:AI f.qa 0=b0.params:=by rw [AI,show(0:Int).toNat=0 from rfl,hb0];rfl
 rw [hp, <- hq] at hr;refine cd<|cf fa31_1 J<|cg 0 ty29 J J J<|Zc<|Zd2 (n:=f.qa.length) underlying29 J (by simp)<|λ hl35=>(ce J J J<|ca J<|Zj2 (q:=37) J (λ hq37=> ?_)<|λ hq37=> ?_)
 .
  have hx37:=of_decide_eq_true hq37;refine Zk0 hq37<|Zk0 hq37<|Zc<|Zs1 J hq37 J<|ca J<|Zk0 J<|Zk0 J<|Zk0 J<|Zk0 J<|Zk0 J<|Zk0 J<|Zk0 J<|Zc<|Zs1 J J J<|cb J<|Zp1 J J ?_;rw [if_pos (by omega)] at hr;refine cd<|cb J<|Zf1<|Za1<|Zd1<|Zg1 J (.tmp J) ?_
  first | (rw [hfin];done) | (rw [hbad _ hm (by decide)];done) | (rw [hr];done)
 have hx37:=of_decide_eq_false hq37;refine Zc (Zl J ?_)<|Zy0 hq37;refine Zc (Zj1 J J J ?_)<|Zy0 hq37;refine Zc<|Zt1 J hq37 J<|ca J<|Zj2 (q:=41) J (λ hq41=> ?_)<|λ hq41=> ?_
 .
  have hx41:128<(f.qa.length:Int)\/4096<n:=by simp_all
  refine Zk0 hq41<|Zk0 hq41<|Zk0 hq41<|Zk0 hq41<|Zk0 hq41<|Zk0 hq41<|Zk0 hq41<|Zc<|Zs1 J hq41 J<|cb J<|Zp1 J J ?_;rw [if_pos (by omega)] at hr;refine cd<|cb J<|Zf1<|Za1<|Zd1<|Zg1 J (.tmp J) ?_
  first | (rw [hfin];done) | (rw [hbad _ hm (by decide)];done) | (rw [hr];done)
 have hx41:¬(128<(f.qa.length:Int)\/4096<n):=by simp_all
 refine Zc (Zj fa31_1 J ?_)<|Zy0 hq41;refine Zc (Zu 0 ty29 J J J ?_)<|Zy0 hq41;refine Zc (Zz (el:=An b0) sl29 J J (by omega) (Aq _ hb0)<|λ a44=> ?_)<|Zy0 hq41;refine Zc (Zw1 fa40_0 J J ?_)<|Zy0 hq41;refine Zc (Zz1 ty32 J J ?_)<|Zy0 hq41;refine Zc (Zd2 (n:=b0.params.length) underlying32 J (by simp)<|λ hl47=> ?_)<|Zy0 hq41;refine Zc (Zj1 J J J ?_)<|Zy0 hq41;refine Zc<|Zt1 J hq41 J<|cb J<|Zn1 J (λ h32=> ?_)<|λ h32=> ?_
 .
  rw [if_pos (by omega)] at hr;refine cd<|cb J<|Zf1<|Za1<|Zd1<|Zg1 J (.tmp J) ?_
  first | (rw [hfin];done) | (rw [hbad _ hm (by decide)];done) | (rw [hr];done)
 rw [if_neg (by omega)] at hr;refine cd<|cf fa31_0 J<|cg 0 ty3 J J J<|ce J J J<|ca J<|Zj2 (q:=54) J (λ hq54=> ?_)<|λ hq54=> ?_
 .
  have hx54:=of_decide_eq_true hq54;refine Zk0 hq54<|Zk0 hq54<|Zk0 hq54<|Zc<|Zs1 J hq54 J<|cb J<|Zp1 J J ?_;rw [if_pos (by omega)] at hr;refine cd<|cb J<|Zf1<|Za1<|Zd1<|Zg1 J (.tmp J) ?_
  first | (rw [hfin];done) | (rw [hbad _ hm (by decide)];done) | (rw [hr];done)
 have hx54:=of_decide_eq_false hq54;refine Zc (Zj fa31_0 J ?_)<|Zy0 hq54;refine Zc (Zu 0 ty3 J J J ?_)<|Zy0 hq54;refine Zc (Zj1 J J J ?_)<|Zy0 hq54;refine Zc<|Zt1 J hq54 J<|cb J<|Zn1 J (λ h50=> ?_)<|λ h50=> ?_
 .
  rw [if_pos (by omega)] at hr;refine cd<|cb J<|Zf1<|Za1<|Zd1<|Zg1 J (.tmp J) ?_
  first | (rw [hfin];done) | (rw [hbad _ hm (by decide)];done) | (rw [hr];done)
 rw [if_neg (by omega)] at hr;refine Zi1<|Zb1<|Zi<|Zb<|cd<|cf fa31_1 J<|cg 0 ty29 J J J<|Zc<|Zd2 (n:=f.qa.length) underlying29 J (by simp)<|λ hl61=>(ca J<|cn<|Zs<|Zi2 (ι:=Nat) (λ k=>f.qa.length - k) (λ k=> [(1,some (.ptr g1 0)),(60,some (Ae f.qa)),(61,some (.int f.qa.length)),(62,some (.int k))]) (λ k=> [.cells g1 31 [.int f.name,Ae f.qa]]) (λ k=>k<=f.qa.length/\DB f.qa k (f.qa.drop k)=DB f.qa 0 f.qa) 0 ⟨Yc _,J⟩ cv (Dk<|Zt2 _) ?_);rintro k hA2;change k<=f.qa.length/\DB f.qa k (f.qa.drop k)=DB f.qa 0 f.qa at hA2;obtain ⟨hk2,hq2⟩:=hA2;refine cd<|cj J J J<|Zb<|Zn1 J (λ h63=> ?_)<|λ h63=> ?_
 .
  obtain⟨b,hb⟩:=Ab f.qa k h63;have hm:=IV.eq_def f.qa k b;have hbad:∀e:Int,IV f.qa k b=e->e≠0->B6 f=e:=λe h1 h2=>by rw [hr, <- hq2,Ag hb,DB,if_pos (by rw [h1];exact h2),h1]
  refine co<|Zb<|Zs<|cd<|ca J<|Zc<|Zz (el:=An b) sl29 J J (by omega) (Aq _ hb)<|λ a65=>(Zc<|Za2 ty40 J J<|Zc<|Zb2 zr40 _ J J<|λ g7=>(ci J<|Zc<|Zx 0 ty40 J J J J J<|cn<|Zb<|cd<|ca J<|ce J J J<|ca J<|Zj2 (q:=69) J (λ hq69=> ?_)<|λ hq69=> ?_))
  .
   have hx69:=of_decide_eq_true hq69;refine Zc (Zj fa40_0 J ?_)<|Zy1 hq69;refine Zc (Zu 0 ty32 J J J ?_)<|Zy1 hq69;refine Zc (Zd2 (n:=b.params.length) underlying32 J (by simp)<|λ hl72=> ?_)<|Zy1 hq69;refine Zc (Zj1 J J J ?_)<|Zy1 hq69;refine Zc<|Zs1 J hq69 J<|cn<|Zn1 J (λ h74=> ?_)<|λ h74=> ?_
   .
    rw [if_pos ⟨hx69,h74⟩] at hm;refine cd<|cb J<|Zf1<|Zd1<|Za1<|Zd1<|Zd1<|Za1<|Zd1<|Zg1 J (.tmp J) ?_
    first | (rw [hfin];done) | (rw [hbad _ hm (by decide)];done) | (rw [hr];done)
   rw [if_neg (λ h=>h74 h.2)] at hm;refine co<|Zb<|cd<|cf fa40_0 J<|cg 0 ty32 J J J<|Zc<|Zd2 (n:=b.params.length) underlying32 J (by simp)<|λ hl77=>(ca J<|cn<|Zs<|Zi2 (ι:=Nat) (λ j=>b.params.length - j) (λ j=> [(1,some (.ptr g1 0)),(60,some (Ae f.qa)),(61,some (.int f.qa.length)),(62,some (.int k)),(6,some (.int k)),(7,some (.ptr g7 0)),(76,some (Ad b.params)),(77,some (.int b.params.length)),(78,some (.int j))]) (λ j=> [.cells g7 40 (An b).leaves, .cells g1 31 [.int f.name,Ae f.qa]]) (λ j=>j<=b.params.length/\Cf (b.params.take j) (b.params.drop j)=Cf [] b.params) 0 ⟨Yc _,J⟩ ct (Dk<|Dk<|Zt2 _) ?_);rintro j hA3;change j<=b.params.length/\Cf (b.params.take j) (b.params.drop j)=Cf [] b.params at hA3;obtain ⟨hj,hq3⟩:=hA3;refine cd<|cj J J J<|Zb<|Zn1 J (λ h79=> ?_)<|λ h79=> ?_
   .
    obtain⟨v,hv⟩:=Ab b.params j h79;rw [Ag hv,Cf] at hq3;refine co<|Zb<|Zs<|cd<|ca J<|Zc<|Zz (el:=V.int v) sl32 J J (by omega) (Bn hv)<|λ a81=>(Zc<|Zz1 ty3 J J<|ci J<|cb J<|Zs<|cd<|ca J<|Zc<|Zx1 [.tmp 84] J J en43 (Fg _)<|Zc<|Zl2 J<|cb J<|Zo1 J (λ h83=> ?_)<|λ h83=> ?_)
    .
     rw [if_pos h83] at hq3;rw [if_pos (by rw [<- hq3];decide), <- hq3] at hm;have hfin:=hbad 4 hm (by decide);refine cd<|cb J<|Zf1<|Za1<|Za1<|Zd1<|Zd1<|Za1<|Zd1<|Za1<|Zd1<|Zd1<|Za1<|Zd1<|Zg1 J (.tmp J) ?_
     first | (rw [hfin];done) | (rw [hbad _ hm (by decide)];done) | (rw [hr];done)
    refine cd<|cf fa40_0 J<|cg 0 ty32 J J J<|ca J<|Zc<|Zu2 (G8 sl32 J J (by omega) (by simp;omega) ⟨J,J⟩) (V.le.of_eq (v':=Ad (b.params.take j)) (by rw [Ad,List.map_take];rfl))<|ca J<|Zc<|Zx1 [.tmp 91, .tmp 92] J J en44 (Ft (b.params.take j) none v)<|cb J<|Zr1 J (λ h87=> ?_)<|λ h87=> ?_
    .
     rw [if_neg (by rw [h83];decide),if_pos h87] at hq3;rw [if_pos (by rw [<- hq3];decide), <- hq3] at hm;have hfin:=hbad 7 hm (by decide);refine cd<|cb J<|Zf1<|Za1<|Za1<|Zd1<|Zd1<|Za1<|Zd1<|Za1<|Zd1<|Zd1<|Za1<|Zd1<|Zg1 J (.tmp J) ?_
     first | (rw [hfin];done) | (rw [hbad _ hm (by decide)];done) | (rw [hr];done)
    refine Zi1<|Zb1<|Zb1<|Zi<|Zd<|cm J J<|ca J<|Za<|Zi ?_;exact ⟨j+1,(by (try simp only []);omega),⟨by omega,by rw [<- hq3,if_neg (by rw [h83];decide),if_neg (by rw [h87];decide),AD hv]⟩,ct,(Dk (Dk (Zt2 _)))⟩
   have hje:j=b.params.length:=by omega
   subst hje;rw [Ya,Cf] at hq3;rw [if_neg (by rw [<- hq3];decide)] at hm;refine Zt<|Ze1<|Ze1<|Zc1<|Zi<|Zb<|cd<|cf fa40_1 J<|cg 0 ty35 J J J<|Zc<|Zd2 (n:=b.ins.length) underlying35 J (by simp)<|λ hl97=>(ca J<|cn<|Zs<|Zi2 (ι:=Nat) (λ j=>b.ins.length - j) (λ j=> [(1,some (.ptr g1 0)),(60,some (Ae f.qa)),(61,some (.int f.qa.length)),(62,some (.int k)),(6,some (.int k)),(7,some (.ptr g7 0)),(96,some (AF b.ins)),(97,some (.int b.ins.length)),(98,some (.int j))]) (λ j=> [.cells g7 40 (An b).leaves, .cells g1 31 [.int f.name,Ae f.qa]]) (λ j=>j<=b.ins.length/\Ax D0 (b.ins.drop j)=Ax D0 b.ins) 0 ⟨Yc _,J⟩ ct (Dk<|Dk<|Zt2 _) ?_);rintro j hA4;change j<=b.ins.length/\Ax D0 (b.ins.drop j)=Ax D0 b.ins at hA4;obtain ⟨hj,hq4⟩:=hA4;refine cd<|cj J J J<|Zb<|Zn1 J (λ h99=> ?_)<|λ h99=> ?_
   .
    obtain⟨i,hi⟩:=Ab b.ins j h99;refine co<|Zb<|Zs<|cd<|Zc<|Zz (el:=AL i) sl35 J J (by omega) (Aq _ hi)<|λ a100=>(Zc<|Za2 ty42 J J<|Zc<|Zb2 zr42 _ J J<|λ g11=>(Zc<|Zx 0 ty42 J J J J J<|cn<|cd<|Zc<|Zv 0 ty42 J J J<|Zc<|Zx1 [.tmp 102] J J en45 (Jk i)<|cb J<|cd<|ca J<|cj J J J<|Zm1 J (λ h105=> ?_)<|λ h105=> ?_))
    .
     have hie:Ax D0 b.ins=D0 i:=by rw [<- hq4,Ag hi,Ax,if_pos h105]
     rw [if_pos (by rw [hie];exact h105),hie] at hm;have hfin:=hbad _ hm h105;refine cd<|ca J<|cb J<|Zf1<|Za1<|Zd1<|Zd1<|Za1<|Zd1<|Za1<|Zd1<|Zd1<|Za1<|Zd1<|Zg1 J (.tmp J) ?_
     first | (rw [hfin];done) | (rw [hbad _ hm (by decide)];done) | (rw [hr];done)
    refine Zi1<|Zb1<|Zi<|Zd<|cm J J<|ca J<|Za<|Zi ?_;exact ⟨j+1,(by (try simp only []);omega),⟨by omega,by rw [<- hq4,Ag hi,Ax,if_neg (by rw [h105];decide)]⟩,ct,(Dd (Dk (Dk (Zt2 _))))⟩
   have hje:j=b.ins.length:=by omega
   subst hje;rw [Ya,Ax] at hq4;rw [if_neg (by rw [<- hq4];decide)] at hm;refine Zt<|Ze1<|Ze1<|Zc1<|Zi<|Zb<|cd<|Zc<|Zv 1 ty31 J J J<|cf fa40_2 J<|Zc<|Zv 0 ty38 J J J<|Zc<|Zx1 [.tmp 108, .tmp 110] J J en46 (Tf f.name f.qa b.qb)<|cb J<|cd<|ca J<|cj J J J<|Zm1 J (λ h113=> ?_)<|λ h113=> ?_
   .
    rw [if_pos h113] at hm;have hfin:=hbad _ hm h113;refine cd<|ca J<|cb J<|Zf1<|Zd1<|Za1<|Zd1<|Zd1<|Za1<|Zd1<|Zg1 J (.tmp J) ?_
    first | (rw [hfin];done) | (rw [hbad _ hm (by decide)];done) | (rw [hr];done)
   rw [if_neg (λ h=>h h113)] at hm;refine co<|cd<|cf fa40_2 J<|cf fa38_1 J<|cg 0 ty3 J J J<|Zc<|Zx1 [.tmp 117] J J en43 (Fg _)<|Zc<|Zl2 J<|cn<|Zo1 J (λ h119=> ?_)<|λ h119=> ?_
   .
    rw [if_pos h119] at hm;have hfin:=hbad 4 hm (by decide);refine cd<|cb J<|Zf1<|Za1<|Zd1<|Zd1<|Za1<|Zd1<|Zg1 J (.tmp J) ?_
    first | (rw [hfin];done) | (rw [hbad _ hm (by decide)];done) | (rw [hr];done)
   rw [if_neg (by rw [h119];decide)] at hm;refine Zi1<|Zb1<|Zi<|Zd<|cm J J<|ca J<|Za<|Zi ?_;exact ⟨k+1,(by (try simp only []);omega),⟨by omega,by rw [<- hq2,Ag hb,DB,if_neg (by rw [hm];decide)]⟩,cv,(Dd (Dk (Zt2 _)))⟩
  have hx69:=of_decide_eq_false hq69;refine Zk1 hq69<|Zk1 hq69<|Zk1 hq69<|Zk1 hq69<|Zc<|Zt1 J hq69 J<|cn<|Zq1 J J ?_;rw [if_neg (λ h=>hx69 h.1)] at hm;refine co<|Zb<|cd<|cf fa40_0 J<|cg 0 ty32 J J J<|Zc<|Zd2 (n:=b.params.length) underlying32 J (by simp)<|λ hl77=>(ca J<|cn<|Zs<|Zi2 (ι:=Nat) (λ j=>b.params.length - j) (λ j=> [(1,some (.ptr g1 0)),(60,some (Ae f.qa)),(61,some (.int f.qa.length)),(62,some (.int k)),(6,some (.int k)),(7,some (.ptr g7 0)),(76,some (Ad b.params)),(77,some (.int b.params.length)),(78,some (.int j))]) (λ j=> [.cells g7 40 (An b).leaves, .cells g1 31 [.int f.name,Ae f.qa]]) (λ j=>j<=b.params.length/\Cf (b.params.take j) (b.params.drop j)=Cf [] b.params) 0 ⟨Yc _,J⟩ ct (Dk<|Dk<|Zt2 _) ?_);rintro j hA3;change j<=b.params.length/\Cf (b.params.take j) (b.params.drop j)=Cf [] b.params at hA3;obtain ⟨hj,hq3⟩:=hA3;refine cd<|cj J J J<|Zb<|Zn1 J (λ h79=> ?_)<|λ h79=> ?_
  .
   obtain⟨v,hv⟩:=Ab b.params j h79;rw [Ag hv,Cf] at hq3;refine co<|Zb<|Zs<|cd<|ca J<|Zc<|Zz (el:=V.int v) sl32 J J (by omega) (Bn hv)<|λ a81=>(Zc<|Zz1 ty3 J J<|ci J<|cb J<|Zs<|cd<|ca J<|Zc<|Zx1 [.tmp 84] J J en43 (Fg _)<|Zc<|Zl2 J<|cb J<|Zo1 J (λ h83=> ?_)<|λ h83=> ?_)
   .
    rw [if_pos h83] at hq3;rw [if_pos (by rw [<- hq3];decide), <- hq3] at hm;have hfin:=hbad 4 hm (by decide);refine cd<|cb J<|Zf1<|Za1<|Za1<|Zd1<|Zd1<|Za1<|Zd1<|Za1<|Zd1<|Zd1<|Za1<|Zd1<|Zg1 J (.tmp J) ?_
    first | (rw [hfin];done) | (rw [hbad _ hm (by decide)];done) | (rw [hr];done)
   refine cd<|cf fa40_0 J<|cg 0 ty32 J J J<|ca J<|Zc<|Zu2 (G8 sl32 J J (by omega) (by simp;omega) ⟨J,J⟩) (V.le.of_eq (v':=Ad (b.params.take j)) (by rw [Ad,List.map_take];rfl))<|ca J<|Zc<|Zx1 [.tmp 91, .tmp 92] J J en44 (Ft (b.params.take j) none v)<|cb J<|Zr1 J (λ h87=> ?_)<|λ h87=> ?_
   .
    rw [if_neg (by rw [h83];decide),if_pos h87] at hq3;rw [if_pos (by rw [<- hq3];decide), <- hq3] at hm;have hfin:=hbad 7 hm (by decide);refine cd<|cb J<|Zf1<|Za1<|Za1<|Zd1<|Zd1<|Za1<|Zd1<|Za1<|Zd1<|Zd1<|Za1<|Zd1<|Zg1 J (.tmp J) ?_
    first | (rw [hfin];done) | (rw [hbad _ hm (by decide)];done) | (rw [hr];done)
   refine Zi1<|Zb1<|Zb1<|Zi<|Zd<|cm J J<|ca J<|Za<|Zi ?_;exact ⟨j+1,(by (try simp only []);omega),⟨by omega,by rw [<- hq3,if_neg (by rw [h83];decide),if_neg (by rw [h87];decide),AD hv]⟩,ct,(Dk (Dk (Zt2 _)))⟩
  have hje:j=b.params.length:=by omega
  subst hje;rw [Ya,Cf] at hq3;rw [if_neg (by rw [<- hq3];decide)] at hm;refine Zt<|Ze1<|Ze1<|Zc1<|Zi<|Zb<|cd<|cf fa40_1 J<|cg 0 ty35 J J J<|Zc<|Zd2 (n:=b.ins.length) underlying35 J (by simp)<|λ hl97=>(ca J<|cn<|Zs<|Zi2 (ι:=Nat) (λ j=>b.ins.length - j) (λ j=> [(1,some (.ptr g1 0)),(60,some (Ae f.qa)),(61,some (.int f.qa.length)),(62,some (.int k)),(6,some (.int k)),(7,some (.ptr g7 0)),(96,some (AF b.ins)),(97,some (.int b.ins.length)),(98,some (.int j))]) (λ j=> [.cells g7 40 (An b).leaves, .cells g1 31 [.int f.name,Ae f.qa]]) (λ j=>j<=b.ins.length/\Ax D0 (b.ins.drop j)=Ax D0 b.ins) 0 ⟨Yc _,J⟩ ct (Dk<|Dk<|Zt2 _) ?_);rintro j hA4;change j<=b.ins.length/\Ax D0 (b.ins.drop j)=Ax D0 b.ins at hA4;obtain ⟨hj,hq4⟩:=hA4;refine cd<|cj J J J<|Zb<|Zn1 J (λ h99=> ?_)<|λ h99=> ?_
  .
   obtain⟨i,hi⟩:=Ab b.ins j h99;refine co<|Zb<|Zs<|cd<|Zc<|Zz (el:=AL i) sl35 J J (by omega) (Aq _ hi)<|λ a100=>(Zc<|Za2 ty42 J J<|Zc<|Zb2 zr42 _ J J<|λ g11=>(Zc<|Zx 0 ty42 J J J J J<|cn<|cd<|Zc<|Zv 0 ty42 J J J<|Zc<|Zx1 [.tmp 102] J J en45 (Jk i)<|cb J<|cd<|ca J<|cj J J J<|Zm1 J (λ h105=> ?_)<|λ h105=> ?_))
   .
    have hie:Ax D0 b.ins=D0 i:=by rw [<- hq4,Ag hi,Ax,if_pos h105]
    rw [if_pos (by rw [hie];exact h105),hie] at hm;have hfin:=hbad _ hm h105;refine cd<|ca J<|cb J<|Zf1<|Za1<|Zd1<|Zd1<|Za1<|Zd1<|Za1<|Zd1<|Zd1<|Za1<|Zd1<|Zg1 J (.tmp J) ?_
    first | (rw [hfin];done) | (rw [hbad _ hm (by decide)];done) | (rw [hr];done)
   refine Zi1<|Zb1<|Zi<|Zd<|cm J J<|ca J<|Za<|Zi ?_;exact ⟨j+1,(by (try simp only []);omega),⟨by omega,by rw [<- hq4,Ag hi,Ax,if_neg (by rw [h105];decide)]⟩,ct,(Dd (Dk (Dk (Zt2 _))))⟩
  have hje:j=b.ins.length:=by omega
  subst hje;rw [Ya,Ax] at hq4;rw [if_neg (by rw [<- hq4];decide)] at hm;refine Zt<|Ze1<|Ze1<|Zc1<|Zi<|Zb<|cd<|Zc<|Zv 1 ty31 J J J<|cf fa40_2 J<|Zc<|Zv 0 ty38 J J J<|Zc<|Zx1 [.tmp 108, .tmp 110] J J en46 (Tf f.name f.qa b.qb)<|cb J<|cd<|ca J<|cj J J J<|Zm1 J (λ h113=> ?_)<|λ h113=> ?_
  .
   rw [if_pos h113] at hm;have hfin:=hbad _ hm h113;refine cd<|ca J<|cb J<|Zf1<|Zd1<|Za1<|Zd1<|Zd1<|Za1<|Zd1<|Zg1 J (.tmp J) ?_
   first | (rw [hfin];done) | (rw [hbad _ hm (by decide)];done) | (rw [hr];done)
  rw [if_neg (λ h=>h h113)] at hm;refine co<|cd<|cf fa40_2 J<|cf fa38_1 J<|cg 0 ty3 J J J<|Zc<|Zx1 [.tmp 117] J J en43 (Fg _)<|Zc<|Zl2 J<|cn<|Zo1 J (λ h119=> ?_)<|λ h119=> ?_
  .
   rw [if_pos h119] at hm;have hfin:=hbad 4 hm (by decide);refine cd<|cb J<|Zf1<|Za1<|Zd1<|Zd1<|Za1<|Zd1<|Zg1 J (.tmp J) ?_
   first | (rw [hfin];done) | (rw [hbad _ hm (by decide)];done) | (rw [hr];done)
  rw [if_neg (by rw [h119];decide)] at hm;refine Zi1<|Zb1<|Zi<|Zd<|cm J J<|ca J<|Za<|Zi ?_;exact ⟨k+1,(by (try simp only []);omega),⟨by omega,by rw [<- hq2,Ag hb,DB,if_neg (by rw [hm];decide)]⟩,cv,(Dd (Dk (Zt2 _)))⟩
 have hke:k=f.qa.length:=by omega
 subst hke;rw [Ya,DB] at hq2;rw [<- hq2] at hr;refine Zt<|Ze1<|Ze1<|Zc1<|Zi<|cd<|cb J<|Zf1<|Zg1 J (.tmp J) ?_
 first | (rw [hfin];done) | (rw [hbad _ hm (by decide)];done) | (rw [hr];done)
theorem Oa (u:Ao):AP prog 10 [DT u] (.int (Cn u)):=by
 have hr:=Cn.eq_def u;refine Al (nt:=90) func10 J J J ?_;refine cd<|Zc<|Zc2 J J<|λ g1=>(cb J<|Zb<|Zs<|cd<|cf fa24_0 J<|cg 0 ty22 J J J<|Zc<|Zd2 (n:=u.fns.length) underlying22 J (by simp)<|λ hl16=>(ce J J J<|cb J<|Zl1 J (λ h13=> ?_)<|λ h13=> ?_))
 .
  rw [if_pos h13] at hr;refine cd<|cb J<|Zf1<|Za1<|Zd1<|Zg1 J (.tmp J) ?_;rw [hr]
 rw [if_neg h13] at hr;refine cd<|cf fa24_0 J<|cg 0 ty22 J J J<|Zc<|Zd2 (n:=u.fns.length) underlying22 J (by simp)<|λ hl21=>(ce J J J<|cb J<|Zn1 J (λ h18=> ?_)<|λ h18=> ?_)
 .
  rw [if_pos h18] at hr;refine cd<|cb J<|Zf1<|Za1<|Zd1<|Zg1 J (.tmp J) ?_;rw [hr]
 rw [if_neg h18] at hr;refine cd<|cf fa24_1 J<|cg 0 ty3 J J J<|ce J J J<|ca J<|Zj2 (q:=27) J (λ hq27=> ?_)<|λ hq27=> ?_
 .
  have hx27:=of_decide_eq_true hq27;refine Zk0 hq27<|Zk0 hq27<|Zk0 hq27<|Zk0 hq27<|Zk0 hq27<|Zk0 hq27<|Zc<|Zs1 J hq27 J<|cb J<|Zp1 J J ?_;rw [if_pos (.inl hx27)] at hr;refine cd<|cb J<|Zf1<|Za1<|Zd1<|Zg1 J (.tmp J) ?_;rw [hr]
 have hx27:=of_decide_eq_false hq27;refine Zc (Zj fa24_1 J ?_)<|Zy0 hq27;refine Zc (Zu 0 ty3 J J J ?_)<|Zy0 hq27;refine Zc (Zj fa24_0 J ?_)<|Zy0 hq27;refine Zc (Zu 0 ty22 J J J ?_)<|Zy0 hq27;refine Zc (Zd2 (n:=u.fns.length) underlying22 J (by simp)<|λ hl32=> ?_)<|Zy0 hq27;refine Zc (Zj1 J J J ?_)<|Zy0 hq27;refine Zc<|Zt1 J hq27 J<|cb J<|Zn1 J (λ h23=> ?_)<|λ h23=> ?_
 .
  rw [if_pos (.inr h23)] at hr;refine cd<|cb J<|Zf1<|Za1<|Zd1<|Zg1 J (.tmp J) ?_;rw [hr]
 rw [if_neg (λ h=>h.elim hx27 h23)] at hr;refine Zi1<|Zb1<|Zi<|Zb<|cd<|cf fa24_0 J<|cg 0 ty22 J J J<|Zc<|Zd2 (n:=u.fns.length) underlying22 J (by simp)<|λ hl37=>(ca J<|cn<|Zs<|Zi2 (ι:=Nat) (λ k=>u.fns.length - k) (λ k=> [(1,some (.ptr g1 0)),(36,some (BV u.fns)),(37,some (.int u.fns.length)),(38,some (.int k))]) (λ k=> [.cells g1 24 [BV u.fns, .int u.main]]) (λ k=>k<=u.fns.length/\Ax B6 (u.fns.drop k)=Ax B6 u.fns/\∀f∈u.fns.take k,B6 f=0) 0 ⟨Yc _,J,λf hf=>by simp at hf⟩ cv (Dk<|Zt2 _) ?_);rintro k hA;change k<=u.fns.length/\Ax B6 (u.fns.drop k)=Ax B6 u.fns/\∀f∈u.fns.take k,B6 f=0 at hA;obtain ⟨hk,hq,hok⟩:=hA;refine cd<|cj J J J<|Zb<|Zn1 J (λ h39=> ?_)<|λ h39=> ?_
 .
  obtain⟨f,hf⟩:=Ab u.fns k h39;refine co<|Zb<|Zs<|cd<|Zc<|Zz (el:=Bs f) sl22 J J (by omega) (Aq _ hf)<|λ a40=>(Zc<|Za2 ty31 J J<|Zc<|Zb2 zr31 _ J J<|λ g4=>(Zc<|Zx 0 ty31 J J J J J<|cn<|cd<|Zc<|Zv 0 ty31 J J J<|Zc<|Zx1 [.tmp 42] J J en22 (U8 f)<|cb J<|cd<|ca J<|cj J J J<|Zm1 J (λ h45=> ?_)<|λ h45=> ?_))
  .
   have hfe:Ax B6 u.fns=B6 f:=by rw [<- hq,Ag hf,Ax,if_pos h45]
   rw [if_pos (by rw [hfe];exact h45),hfe] at hr;refine cd<|ca J<|cb J<|Zf1<|Za1<|Zd1<|Zd1<|Za1<|Zd1<|Zg1 J (.tmp J) ?_;rw [hr]
  refine Zi1<|Zb1<|Zi<|Zd<|cm J J<|ca J<|Za<|Zi ?_;exact ⟨k+1,(by (try simp only []);omega),⟨by omega,by rw [<- hq,Ag hf,Ax,if_neg (by rw [h45];decide)],λg hg=>by rw [AD hf] at hg;rcases List.mem_append.1 hg with hg | hg;exact hok g hg;rw [List.mem_singleton.1 hg];exact h45⟩,cv,(Dd (Dk (Zt2 _)))⟩
 rw [Q8 h39] at hok;have hke:k=u.fns.length:=by omega
 subst hke;rw [Ya,Ax] at hq;rw [if_neg (by rw [<- hq];decide)] at hr;obtain ⟨f0,hf0⟩:=Ab u.fns u.main.toNat (by omega);obtain ⟨b0,tl,hb0⟩:=List.exists_cons_of_ne_nil (CX (hok f0 (Yb hf0))).ne;have hen:AT u u.main=b0.params:=by rw [AT,hf0];simp [AI,hb0]
 rw [hen] at hr;refine Zt<|Ze1<|Ze1<|Zc1<|Zi<|Zb<|cd<|cf fa24_0 J<|cg 0 ty22 J J J<|cf fa24_1 J<|cg 0 ty3 J J J<|Zc<|Zz (el:=Bs f0) sl22 J J (by omega) (Aq _ hf0)<|λ a52=>(Zc<|Zw1 fa31_1 J J<|Zc<|Zz1 ty29 J J<|Zc<|Zz (el:=An b0) sl29 J J (by omega) (by rw [hb0];rfl)<|λ a55=>(Zc<|Zw1 fa40_0 J J<|Zc<|Zz1 ty32 J J<|Zc<|Zd2 (n:=b0.params.length) underlying32 J (by simp)<|λ hl58=>(cj J J J<|Zn1 J (λ h59=> ?_)<|λ h59=> ?_)))
 .
  rw [if_pos (by omega)] at hr;refine cd<|cb J<|Zf1<|Zd1<|Zg1 J (.tmp J) ?_;rw [hr]
 rw [if_neg (by omega)] at hr;refine co<|Zb<|cd<|cf fa24_0 J<|cg 0 ty22 J J J<|Zc<|Zd2 (n:=u.fns.length) underlying22 J (by simp)<|λ hl62=>(ca J<|cn<|Zs<|Zi2 (ι:=Nat) (λ k=>u.fns.length - k) (λ k=> [(1,some (.ptr g1 0)),(61,some (BV u.fns)),(62,some (.int u.fns.length)),(63,some (.int k))]) (λ k=> [.cells g1 24 [BV u.fns, .int u.main]]) (λ k=>k<=u.fns.length/\Ax (λ f=>Ax (λ b=>Ax (CG u) b.ins) f.qa) (u.fns.drop k)=G4 u) 0 ⟨Yc _,J⟩ cv (Dk<|Zt2 _) ?_);rintro k hA2;change k<=u.fns.length/\Ax (λ f=>Ax (λ b=>Ax (CG u) b.ins) f.qa) (u.fns.drop k)=G4 u at hA2;obtain ⟨hk2,hq2⟩:=hA2;refine cd<|cj J J J<|Zb<|Zn1 J (λ h64=> ?_)<|λ h64=> ?_
 .
  obtain⟨f,hf⟩:=Ab u.fns k h64;have hfok:=CX (hok f (Yb hf));refine co<|Zb<|Zs<|cd<|Zc<|Zz (el:=Bs f) sl22 J J (by omega) (Aq _ hf)<|λ a65=>(Zc<|Za2 ty31 J J<|Zc<|Zb2 zr31 _ J J<|λ g7=>(Zc<|Zx 0 ty31 J J J J J<|cn<|cd<|cf fa31_1 J<|cg 0 ty29 J J J<|Zc<|Zd2 (n:=f.qa.length) underlying29 J (by simp)<|λ hl69=>(ca J<|cn<|Zs<|Zi2 (ι:=Nat) (λ l=>f.qa.length - l) (λ l=> [(1,some (.ptr g1 0)),(61,some (BV u.fns)),(62,some (.int u.fns.length)),(63,some (.int k)),(68,some (Ae f.qa)),(69,some (.int f.qa.length)),(70,some (.int l))]) (λ l=> [.cells g1 24 [BV u.fns, .int u.main]]) (λ l=>l<=f.qa.length/\Ax (λ b=>Ax (CG u) b.ins) (f.qa.drop l)=Ax (λ b=>Ax (CG u) b.ins) f.qa) 0 ⟨Yc _,J⟩ cw (Dd<|Dk<|Zt2 _) ?_)));rintro l hA3;change l<=f.qa.length/\Ax (λ b=>Ax (CG u) b.ins) (f.qa.drop l)=Ax (λ b=>Ax (CG u) b.ins) f.qa at hA3;obtain ⟨hl,hq3⟩:=hA3;refine cd<|cj J J J<|Zb<|Zn1 J (λ h71=> ?_)<|λ h71=> ?_
  .
   obtain⟨b,hb⟩:=Ab f.qa l h71;have hbo:=hfok.block l b hb;refine co<|Zb<|Zs<|cd<|Zc<|Zz (el:=An b) sl29 J J (by omega) (Aq _ hb)<|λ a72=>(Zc<|Za2 ty40 J J<|Zc<|Zb2 zr40 _ J J<|λ g9=>(Zc<|Zx 0 ty40 J J J J J<|cn<|cd<|cf fa40_1 J<|cg 0 ty35 J J J<|Zc<|Zd2 (n:=b.ins.length) underlying35 J (by simp)<|λ hl76=>(ca J<|cn<|Zs<|Zi2 (ι:=Nat) (λ j=>b.ins.length - j) (λ j=> [(1,some (.ptr g1 0)),(61,some (BV u.fns)),(62,some (.int u.fns.length)),(63,some (.int k)),(68,some (Ae f.qa)),(69,some (.int f.qa.length)),(70,some (.int l)),(75,some (AF b.ins)),(76,some (.int b.ins.length)),(77,some (.int j))]) (λ j=> [.cells g1 24 [BV u.fns, .int u.main]]) (λ j=>j<=b.ins.length/\Ax (CG u) (b.ins.drop j)=Ax (CG u) b.ins) 0 ⟨Yc _,J⟩ cq (Dd<|Dk<|Zt2 _) ?_)));rintro j hA4;change j<=b.ins.length/\Ax (CG u) (b.ins.drop j)=Ax (CG u) b.ins at hA4;obtain ⟨hj,hq4⟩:=hA4;refine cd<|cj J J J<|Zb<|Zn1 J (λ h78=> ?_)<|λ h78=> ?_
   .
    obtain⟨i,hi⟩:=Ab b.ins j h78;refine co<|Zb<|Zs<|cd<|Zc<|Zz (el:=AL i) sl35 J J (by omega) (Aq _ hi)<|λ a79=>(Zc<|Za2 ty42 J J<|Zc<|Zb2 zr42 _ J J<|λ g11=>(Zc<|Zx 0 ty42 J J J J J<|cn<|cd<|Zc<|Zv 1 ty24 J J J<|Zc<|Zv 0 ty42 J J J<|Zc<|Zx1 [.tmp 81, .tmp 82] J J en23 (Wm u i (AfE<|hbo.ins i<|Yb hi)<|λ f hf=>(CX<|hok f hf).ne)<|cb J<|cd<|ca J<|cj J J J<|Zm1 J (λ h85=> ?_)<|λ h85=> ?_))
    .
     have hce:G4 u=CG u i:=by rw [<- hq2,Ag hf,Ax, <- hq3,Ag hb,Ax, <- hq4,Ag hi,Ax,if_pos h85,if_pos h85,if_pos h85]
     rw [hce] at hr;refine cd<|ca J<|cb J<|Zf1<|Za1<|Zd1<|Zd1<|Za1<|Za1<|Zd1<|Zd1<|Za1<|Za1<|Zd1<|Zd1<|Za1<|Zd1<|Zg1 J (.tmp J) ?_;rw [hr]
    refine Zi1<|Zb1<|Zi<|Zd<|cm J J<|ca J<|Za<|Zi ?_;exact ⟨j+1,(by (try simp only []);omega),⟨by omega,by rw [<- hq4,Ag hi,Ax,if_neg (by rw [h85];decide)]⟩,cq,(Dd (Dk (Zt2 _)))⟩
   have hke:j=b.ins.length:=by omega
   subst hke;rw [Ya,Ax] at hq4;have hin:=hq4.symm;refine Zt<|Ze1<|Ze1<|Zc1<|Zb1<|Zi<|Zd<|cm J J<|ca J<|Za<|Zi ?_;exact ⟨l+1,(by (try simp only []);omega),⟨by omega,by rw [<- hq3,Ag hb,Ax,if_neg (by rw [hin];decide)]⟩,cw,(Dk (Zt2 _))⟩
  have hke:l=f.qa.length:=by omega
  subst hke;rw [Ya,Ax] at hq3;have hbl:=hq3.symm;refine Zt<|Ze1<|Ze1<|Zc1<|Zb1<|Zi<|Zd<|cm J J<|ca J<|Za<|Zi ?_;exact ⟨k+1,(by (try simp only []);omega),⟨by omega,by rw [<- hq2,Ag hf,Ax,if_neg (by rw [hbl];decide)]⟩,cv,(Dk (Zt2 _))⟩
 have hke:k=u.fns.length:=by omega
 subst hke;rw [Ya,Ax] at hq2;rw [<- hq2] at hr;refine Zt<|Ze1<|Ze1<|Zc1<|Zi<|cd<|cb J<|Zf1<|Zg1 J (.tmp J) ?_;rw [hr]
end Go.Proofs.YthlflmmnankhhaaGreat.X15
