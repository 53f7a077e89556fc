import Derived.Test.YthlflmmnankhhaaGreatVT
import Derived.Test.YthlflmmnankhhaaGreatSY
import Derived.Test.YthlflmmnankhhaaGreatVZ
set_option maxRecDepth 100000
set_option maxHeartbeats 4000000
open Go.VL.Drops renaming keep → Dk
set_option linter.all false
namespace Go.Proofs.YthlflmmnankhhaaGreat.X1
open Go.VL Go.SM Go.Proofs.YthlflmmnankhhaaGreat  VT Tryz
theorem Wn (x:Int):IntKind.i64.wrap x % 2147483648=x % 2147483648:=by
  simp only [IntKind.wrap,IntKind.bits,IntKind.signed,Bool.true_and,decide_eq_true_eq];split <;> omega
theorem Lm (x:Int):CH (IntKind.i64.wrap x)=CH x:=by
  unfold CH;have:=Wn x;omega
theorem AbY (x:Int): -1073741824<=CH x/\CH x<=1073741823:=by unfold CH;omega
theorem Ej {a b:Nat}(hb:b<=9223372036854775807)(ha:a<=9223372036854775807):((b:Int)==IntKind.i64.wrap ((a:Int)+1))=((b:Int)==(a:Int)+1):=by
  rw [Bool.eq_iff_iff,beq_iff_eq,beq_iff_eq];simp only [IntKind.wrap,IntKind.bits,IntKind.signed,Bool.true_and,decide_eq_true_eq,show(2:Int) ^ (64 - 1)=9223372036854775808 from rfl,show(2:Int) ^ 64=18446744073709551616 from rfl];split <;> omega
theorem AdH (a b:Int): -9223372036854775808<=(CH a).tdiv (CH b)/\(CH a).tdiv (CH b)<=9223372036854775807:=by
  have h1:=AbY a;have h2:((CH a).tdiv (CH b)).natAbs<=(CH a).natAbs:=by rw [Int.natAbs_tdiv];exact Nat.div_le_self _ _
  omega
theorem DD (n lo hi:Int):AP prog 24 [.int n, .int lo, .int hi] (.bool (wi n lo hi)):=by
 refine Al (nt:=15) func24 J J J ?_;refine cd<|cb J<|cd<|ca J<|ca J<|ce J J J<|ca J<|Zj2 (q:=10) J (λ hq10=> ?_)<|λ hq10=> ?_
 .
  refine Zc (Zl J ?_)<|Zy1 hq10;refine Zc (Zl J ?_)<|Zy1 hq10;refine Zc (Zj1 J J J ?_)<|Zy1 hq10;refine Zc<|Zs1 J hq10 J<|cb J<|Zf1<|Zg1 J (.tmp J) ?_;simp at hq10
  first | (simp [wi,hq10];done) | (simp [wi];omega)
 refine Zk1 hq10<|Zk1 hq10<|Zk1 hq10<|Zc<|Zt1 J hq10 J<|cb J<|Zf1<|Zg1 J (.tmp J) ?_;simp at hq10
 first | (simp [wi,hq10];done) | (simp [wi];omega)
theorem N5 (n:Int):AP prog 77 [.int n] (.bool (P8 n)):=by
 refine Al (nt:=5) func77 J J J ?_;refine cd<|cb J<|cd<|ca J<|Zc<|Zx1 [.tmp 3, .const (.int .i64 (-1073741824)), .const (.int .i64 (1073741823))] J J en24 (DD n _ _)<|cb J<|Zf1<|Zg1 J (.tmp J) ?_;rfl
theorem FP (n:Int):AP prog 128 [.int n] (.int (CH n)):=by
 refine Al (nt:=7) func128 J J J ?_;refine cd<|cb J<|cd<|ca J<|ce J J J<|Zc<|ZC J J<|Zc<|Zk2 J J (by omega)<|cb J<|Zf1<|Zg1 J (.tmp J) ?_;rw [Wn];rfl
theorem Agu (a b:Int):AP prog 121 [.int a, .int b] (.int (CH (a+b))):=by
 refine Al (nt:=9) func121 J J J ?_;refine cd<|cb J<|cd<|ca J<|ca J<|ce J J J<|Zc<|Zx1 [.tmp 7] J J en128 (FP _)<|cb J<|Zf1<|Zg1 J (.tmp J) ?_;rw [Lm]
theorem Agv (a b:Int):AP prog 122 [.int a, .int b] (.int (CH (a - b))):=by
 refine Al (nt:=9) func122 J J J ?_;refine cd<|cb J<|cd<|ca J<|ca J<|ce J J J<|Zc<|Zx1 [.tmp 7] J J en128 (FP _)<|cb J<|Zf1<|Zg1 J (.tmp J) ?_;rw [Lm]
theorem Agw (a b:Int):AP prog 123 [.int a, .int b] (.int (CH (CH a*CH b))):=by
 refine Al (nt:=11) func123 J J J ?_;refine cd<|cb J<|cd<|ca J<|Zc<|Zx1 [.tmp 5] J J en128 (FP _)<|ca J<|Zc<|Zx1 [.tmp 7] J J en128 (FP _)<|ce J J J<|Zc<|Zx1 [.tmp 9] J J en128 (FP _)<|cb J<|Zf1<|Zg1 J (.tmp J) ?_;rw [Lm]
theorem Agx (a b:Int):AP prog 125 [.int a, .int b] (.tup [.int (AcB a b), .int (if CH b=0 then 1 else 0)]):=by
 refine Al (nt:=15) func125 J J J ?_;refine cd<|ci J<|cb J<|Zb<|cd<|ca J<|Zc<|Zx1 [.tmp 6] J J en128 (FP _)<|cj J J J<|Zl1 J (λ h8=> ?_)<|λ h8=> ?_
 .
  refine cd<|ci J<|cb J<|Zf1<|Zd1<|Zh1 J J (.cons (.tmp J)<|.cons (.tmp J)<|.nil) ?_;rw [AcB,if_pos h8,if_pos h8]
 refine co<|cd<|ca J<|Zc<|Zx1 [.tmp 9] J J en128 (FP _)<|ca J<|Zc<|Zx1 [.tmp 11] J J en128 (FP _)<|Zc<|ZD J J h8 (AdH a b)<|Zc<|Zx1 [.tmp 13] J J en128 (FP _)<|ci J<|cb J<|Zf1<|Zh1 J J (.cons (.tmp J)<|.cons (.tmp J)<|.nil) ?_;rw [AcB,if_neg h8,if_neg h8]
theorem Agy (a b:Int):AP prog 126 [.int a, .int b] (.tup [.int (AcC a b), .int (if CH b=0 then 1 else 0)]):=by
 refine Al (nt:=14) func126 J J J ?_;refine cd<|ci J<|cb J<|Zb<|cd<|ca J<|Zc<|Zx1 [.tmp 6] J J en128 (FP _)<|cj J J J<|Zl1 J (λ h8=> ?_)<|λ h8=> ?_
 .
  refine cd<|ci J<|cb J<|Zf1<|Zd1<|Zh1 J J (.cons (.tmp J)<|.cons (.tmp J)<|.nil) ?_;rw [AcC,if_pos h8,if_pos h8]
 refine co<|cd<|ca J<|Zc<|Zx1 [.tmp 9] J J en128 (FP _)<|ca J<|Zc<|Zx1 [.tmp 11] J J en128 (FP _)<|Zc<|ZB J J h8<|ci J<|cb J<|Zf1<|Zh1 J J (.cons (.tmp J)<|.cons (.tmp J)<|.nil) ?_;rw [AcC,if_neg h8,if_neg h8]
theorem CL (ρ:Nat->Nat)(n:Int):AP prog 105 [.int n] (AV ρ (.word n)):=by
 refine Al (nt:=5) func105 J J J ?_;refine cd<|Zc<|Zb2 zr146 _ J J<|λ g2=>(cn<|cd<|ca J<|Zc<|Zu2 (Zf2 [0,1] [.const (.int .i64 (0)), .tmp 3] st146 J J J J ⟨J,J⟩) (BK ρ 0 n)<|Zc<|Zx 0 ty146 J J J J J<|cn<|Zf1<|Zg1 J (.agg (i:=0) ty146 J J J) ?_);rfl
theorem Wo (ρ:Nat->Nat)(b:Bool):AP prog 124 [.bool b] (AV ρ (MJ b)):=by
 refine Al (nt:=6) func124 J J J ?_;refine cd<|Zc<|Zb2 zr146 _ J J<|λ g2=>(cn<|Zb<|cd<|ca J<|cn<|Zr1 J (λ h3=> ?_)<|λ h3=> ?_)
 .
  refine cd<|Zc<|Zx1 [.const (.int .i64 (1))] J J en105 (CL ρ _)<|Zc<|Zx 0 ty146 J J J J J<|cn<|Zf1<|Zd1<|Zg1 J (.agg (i:=0) ty146 J J J) ?_;subst h3;rfl
 refine co<|cd<|Zc<|Zx1 [.const (.int .i64 (0))] J J en105 (CL ρ _)<|Zc<|Zx 0 ty146 J J J J J<|cn<|Zf1<|Zg1 J (.agg (i:=0) ty146 J J J) ?_;subst h3;rfl
theorem Tq (ρ:Nat->Nat)(l:List Val)(k:Int):AP prog 106 [Ed ρ l, .int k] (.bool (HY k l)):=by
 refine Al (nt:=18) func106 J J J ?_;refine cd<|cb J<|Zb<|cd<|ca J<|Zc<|Zd2 (n:=l.length) underlying139 J (by simp)<|λ hl8=>(ca J<|cn<|Zs<|Zi2 (ι:=Nat) (λ j=>l.length - j) (λ j=> [(1,some (.int k)),(7,some (Ed ρ l)),(8,some (.int l.length)),(9,some (.int j))]) (λ j=> []) (λ j=>j<=l.length/\HY k (l.drop j)=HY k l) 0 ⟨Nat.zero_le _,J⟩ cv (Drops.nil _) ?_);rintro j hA;change j<=l.length/\HY k (l.drop j)=HY k l at hA;obtain ⟨hj,hq⟩:=hA;refine cd<|cj J J J<|Zb<|Zn1 J (λ h10=> ?_)<|λ h10=> ?_
 .
  obtain⟨x,hx⟩:=Ab l j h10;refine co<|Zb<|Zs<|cd<|Zc<|Zz (el:=AV ρ x) sl139 J J (by omega) (Gm hx)<|λ a11=>(Zc<|Za2 ty146 J J<|Zc<|Zb2 zr146 _ J J<|λ g6=>(Zc<|Zx 0 ty146 J J J J J<|cn<|cd<|cf fa146_0 J<|cg 0 ty3 J J J<|ca J<|cj J J J<|Zm1 J (λ h16=> ?_)<|λ h16=> ?_))
  .
   refine cd<|cb J<|Zf1<|Za1<|Zd1<|Zd1<|Za1<|Zd1<|Zg1 J (.tmp J) ?_;rw [<- hq,Ag hx,HY,decide_eq_false h16,Bool.false_and]
  refine Zi1<|Zb1<|Zi<|Zd<|cm J J<|ca J<|Za<|Zi ?_;exact ⟨j+1,(by (try simp only []);omega),⟨by omega,by rw [<- hq,Ag hx,HY,decide_eq_true h16,Bool.true_and]⟩,cv,(Drops.nil _)⟩
 have hje:j=l.length:=by omega
 subst hje;rw [List.drop_length,HY] at hq;refine Zt<|Ze1<|Ze1<|Zc1<|Zi<|cd<|cb J<|Zf1<|Zg1 J (.tmp J) ?_;rw [<- hq]
theorem Tr (ρ:Nat->Nat)(op a b:Int):AP prog 107 [.int op, .int a, .int b] (.tup [AV ρ (Du op a b).1, .int (Du op a b).2]):=by
 have hr:=Du.eq_def op a b;refine Al (nt:=64) func107 J J J ?_;refine cd<|Zc<|Zb2 zr146 _ J J<|λ g6=>(cb J<|Zb<|cd<|ca J<|cn<|Zs<|cd<|ce J J J<|cb J<|Zl1 J (λ h13=> ?_)<|λ h13=> ?_)
 .
  rw [if_pos h13] at hr;refine cd<|ca J<|ca J<|Zc<|Zx1 [.tmp 15, .tmp 16] J J en121 (Agu a b)<|Zc<|Zx1 [.tmp 17] J J en105 (CL ρ _)<|Zc<|Zx 0 ty146 J J J J J<|cb J<|Zf1<|Za1<|Zd1<|Zh1 J J (.cons (.agg (i:=0) ty146 J J J)<|.cons (.tmp J)<|.nil) ?_
  first | (rw [hr];done) | (rw [hr];rfl)
 rw [if_neg h13] at hr;refine cd<|ce J J J<|cb J<|Zl1 J (λ h19=> ?_)<|λ h19=> ?_
 .
  rw [if_pos h19] at hr;refine cd<|ca J<|ca J<|Zc<|Zx1 [.tmp 21, .tmp 22] J J en122 (Agv a b)<|Zc<|Zx1 [.tmp 23] J J en105 (CL ρ _)<|Zc<|Zx 0 ty146 J J J J J<|cb J<|Zf1<|Za1<|Zd1<|Zh1 J J (.cons (.agg (i:=0) ty146 J J J)<|.cons (.tmp J)<|.nil) ?_
  first | (rw [hr];done) | (rw [hr];rfl)
 rw [if_neg h19] at hr;refine cd<|ce J J J<|cb J<|Zl1 J (λ h25=> ?_)<|λ h25=> ?_
 .
  rw [if_pos h25] at hr;refine cd<|ca J<|ca J<|Zc<|Zx1 [.tmp 27, .tmp 28] J J en123 (Agw a b)<|Zc<|Zx1 [.tmp 29] J J en105 (CL ρ _)<|Zc<|Zx 0 ty146 J J J J J<|cb J<|Zf1<|Za1<|Zd1<|Zh1 J J (.cons (.agg (i:=0) ty146 J J J)<|.cons (.tmp J)<|.nil) ?_
  first | (rw [hr];done) | (rw [hr];rfl)
 rw [if_neg h25] at hr;refine cd<|ce J J J<|cb J<|Zl1 J (λ h31=> ?_)<|λ h31=> ?_
 .
  rw [if_pos h31] at hr;refine cd<|ca J<|ca J<|ce J J J<|Zc<|Zx1 [.tmp 35] J J en124 (Wo ρ _)<|Zc<|Zx 0 ty146 J J J J J<|cb J<|Zf1<|Za1<|Zd1<|Zh1 J J (.cons (.agg (i:=0) ty146 J J J)<|.cons (.tmp J)<|.nil) ?_
  first | (rw [hr];done) | (rw [hr];rfl)
 rw [if_neg h31] at hr;refine cd<|ce J J J<|cb J<|Zl1 J (λ h37=> ?_)<|λ h37=> ?_
 .
  rw [if_pos h37] at hr;refine cd<|ca J<|ca J<|ce J J J<|Zc<|Zx1 [.tmp 41] J J en124 (Wo ρ _)<|Zc<|Zx 0 ty146 J J J J J<|cb J<|Zf1<|Za1<|Zd1<|Zh1 J J (.cons (.agg (i:=0) ty146 J J J)<|.cons (.tmp J)<|.nil) ?_
  first | (rw [hr];done) | (rw [hr];rfl)
 rw [if_neg h37] at hr;refine Zi1<|Zb1<|Zi<|Zb<|cd<|ca J<|cj J J J<|Zl1 J (λ h44=> ?_)<|λ h44=> ?_
 .
  rw [if_pos h44] at hr;refine cd<|Zc<|Zu2 (Zf2 [] [] st146 J J J J ⟨J,J⟩) (BK ρ 0 0)<|Zc<|Zx 0 ty146 J J J J J<|cb J<|Zf1<|Zd1<|Zh1 J J (.cons (.agg (i:=0) ty146 J J J)<|.cons (.tmp J)<|.nil) ?_
  first | (rw [hr];done) | (rw [hr];rfl)
 rw [if_neg h44] at hr;refine co<|Zb<|cd<|ca J<|cj J J J<|Zl1 J (λ h47=> ?_)<|λ h47=> ?_
 .
  rw [if_pos h47] at hr;refine cd<|ca J<|ca J<|Zc<|Zx1 [.tmp 49, .tmp 50] J J en125 (Agx a b)<|ca J<|Zc<|Zg2 J J<|Zc<|Zg2 J J<|ci J<|cb J<|cd<|ca J<|Zc<|Zx1 [.tmp 54] J J en105 (CL ρ _)<|Zc<|Zx 0 ty146 J J J J J<|cb J<|Zf1<|Zd1<|Zh1 J J (.cons (.agg (i:=0) ty146 J J J)<|.cons (.tmp J)<|.nil) ?_
  first | (rw [hr];done) | (rw [hr];rfl)
 rw [if_neg h47] at hr;refine co<|cd<|ca J<|ca J<|Zc<|Zx1 [.tmp 57, .tmp 58] J J en126 (Agy a b)<|ca J<|Zc<|Zg2 J J<|Zc<|Zg2 J J<|ci J<|cb J<|cd<|ca J<|Zc<|Zx1 [.tmp 62] J J en105 (CL ρ _)<|Zc<|Zx 0 ty146 J J J J J<|cb J<|Zf1<|Zh1 J J (.cons (.agg (i:=0) ty146 J J J)<|.cons (.tmp J)<|.nil) ?_
 first | (rw [hr];done) | (rw [hr];rfl)
theorem U4 (i:AQ):AP prog 98 [AL i] (.tup [.int (Cv i).1, .bool (Cv i).2]):=by
 have hr:=Cv.eq_def i;refine Al (nt:=47) func98 J J J ?_;refine cd<|Zc<|Zc2 J J<|λ g1=>(ci J<|cb J<|Zb<|cd<|cf fa42_1 J<|cg 0 ty3 J J J<|cn<|Zs<|cd<|ce J J J<|cb J<|Zl1 J (λ h6=> ?_)<|λ h6=> ?_)
 .
  rw [if_pos h6] at hr;refine cd<|ci J<|cb J<|Zf1<|Za1<|Zd1<|Zh1 J J (.cons (.tmp J)<|.cons (.tmp J)<|.nil) ?_;rw [hr]
  first | done | (simp at hq42;simp [hq42];done) | (simp at hq42;simp [hq42];rfl)
 rw [if_neg h6] at hr;refine Zb<|Ms (q:=8) (x:=5) [(9,1),(10,2),(11,3),(12,4),(13,5),(14,6),(15,7),(16,16),(17,18),(18,19),(19,21),(20,23)] J J J<|Zi<|Zr1 J (λ h8=> ?_)<|λ h8=> ?_
 .
  rw [if_pos (show Bh i.op op2=true from h8)] at hr;refine cd<|ci J<|cb J<|Zf1<|Za1<|Zd1<|Zh1 J J (.cons (.tmp J)<|.cons (.tmp J)<|.nil) ?_;rw [hr]
  first | done | (simp at hq42;simp [hq42];done) | (simp at hq42;simp [hq42];rfl)
 rw [if_neg (by rw [show Bh i.op op2=false from h8];exact Bool.false_ne_true)] at hr;refine cd<|ce J J J<|cb J<|Zl1 J (λ h21=> ?_)<|λ h21=> ?_
 .
  rw [if_pos h21] at hr;refine cd<|ci J<|cb J<|Zf1<|Za1<|Zd1<|Zh1 J J (.cons (.tmp J)<|.cons (.tmp J)<|.nil) ?_;rw [hr]
  first | done | (simp at hq42;simp [hq42];done) | (simp at hq42;simp [hq42];rfl)
 rw [if_neg h21] at hr;refine Zb<|Ms (q:=23) (x:=5) [(24,10),(25,11),(26,12),(27,15),(28,17),(29,24)] J J J<|Zi<|Zr1 J (λ h23=> ?_)<|λ h23=> ?_
 .
  rw [if_pos (show Bh i.op op1=true from h23)] at hr;refine cd<|ci J<|cb J<|Zf1<|Za1<|Zd1<|Zh1 J J (.cons (.tmp J)<|.cons (.tmp J)<|.nil) ?_;rw [hr]
  first | done | (simp at hq42;simp [hq42];done) | (simp at hq42;simp [hq42];rfl)
 rw [if_neg (by rw [show Bh i.op op1=false from h23];exact Bool.false_ne_true)] at hr;refine Zb<|Ms (q:=30) (x:=5) [(31,8),(32,9),(33,13),(34,14)] J J J<|Zi<|Zr1 J (λ h30=> ?_)<|λ h30=> ?_
 .
  rw [if_pos (show Bh i.op Rp=true from h30)] at hr;refine cd<|ci J<|cb J<|Zf1<|Za1<|Zd1<|Zh1 J J (.cons (.tmp J)<|.cons (.tmp J)<|.nil) ?_;rw [hr]
  first | done | (simp at hq42;simp [hq42];done) | (simp at hq42;simp [hq42];rfl)
 rw [if_neg (by rw [show Bh i.op Rp=false from h30];exact Bool.false_ne_true)] at hr;refine cd<|ce J J J<|cb J<|Zl1 J (λ h35=> ?_)<|λ h35=> ?_
 .
  rw [if_pos h35] at hr;refine Zb ?_;rcases Bool.eq_false_or_eq_true ((i.n==(2:Int))) with hq42 | hq42
  .
   refine Ap (G:=Unit) [([],[1],[]),([0],[37],[]),([],[1],[]),([2],[39],[]),([3,2],[40],[]),([4,3,2],[41],[]),([5,4,3,2],[1,42],[]),([6,5,4,3,2],[43,42],[]),([7,6,5,4,3,2],[44,42],[]),([8,7,6,5,4,3,2],[42,45],[]),(dn 6,[38],[]),(dn 11,[46],[])] [] (Bo _) [2,3] [2,3,37,38,39,40,41,42,43,44,45,46] J VT.mix<|ZA (λ γ=>Zf<|λ _ h1=>Ze<|Zn J<|Zj fa42_2 h1 z0)<|ZA (λ γ=>Zw 0 0 J<|λ _ h37=>Ze<|Zn J<|Zu 0 ty3 h37 J J z0)<|ZA (λ γ=>Zf<|λ _ h1=>Ze<|Zn J<|Zj fa42_2 h1 z0)<|ZA (λ γ=>Zw 2 0 J<|λ _ h39=>Ze<|Zn J<|Zu 0 ty3 h39 J J z0)<|ZA (λ γ=>Zw 3 0 J<|λ _ h40=>Ze<|Zn J<|Zj1 h40 J J z0)<|ZA (λ γ=>Zw 4 0 J<|λ _ h41=>Ze<|Zn J<|Zl h41 z0)<|ZA (λ γ=>Zf<|λ _ h1=>Zw 5 0 J<|λ _ h42=>Ze<|Zy2 (Zr J J h42 hq42) z0)<|ZA (λ γ=>Zw 6 0 J<|λ _ h43=>Zw 5 1 J<|λ _ h42=>Ze<|Zy2 (Zr J J h42 hq42) z0)<|ZA (λ γ=>Zw 7 0 J<|λ _ h44=>Zw 5 2 J<|λ _ h42=>Ze<|Zy2 (Zr J J h42 hq42) z0)<|ZA (λ γ=>Zw 5 3 J<|λ _ h42=>Zw 8 0 J<|λ _ h45=>Ze<|Zn J<|Zs1 h42 hq42 J z0)<|ZA (λ γ=>Zw 1 8 J<|λ _ h38=>Ze<|Zn J<|Zk h38 z0)<|ZA (λ γ=>Zw 9 1 J<|λ _ h46=>Ze<|Zn J<|Zk h46 z0)<|Ak<|λ γ=>Zw 10 1 J<|λ r2 h2=>Zw 11 0 J<|λ r3 h3=>Ze ?_;have e2:r2=some _:=h2;subst e2;clear h2;have e3:r3=some _:=h3;subst e3;clear h3;refine Zi<|Zf1<|Za1<|Zd1<|Zh1 J J (.cons (.tmp J)<|.cons (.tmp J)<|.nil) ?_;rw [hr]
   first | done | (simp at hq42;simp [hq42];done) | (simp at hq42;simp [hq42];rfl)
  refine Ap (G:=Unit) [([],[1],[]),([0],[37],[]),([],[1],[]),([2],[39],[]),([3,2],[40],[]),([4,3,2],[41],[]),([5,4,3,2],[1,42],[]),([6,5,4,3,2],[43,42],[]),([7,6,5,4,3,2],[44,42],[]),([8,7,6,5,4,3,2],[42,45],[]),(dn 6,[38],[]),(dn 11,[46],[])] [] (Bo _) [2,3] [2,3,37,38,39,40,41,42,43,44,45,46] J VT.mix<|ZA (λ γ=>Zf<|λ _ h1=>Ze<|Zn J<|Zj fa42_2 h1 z0)<|ZA (λ γ=>Zw 0 0 J<|λ _ h37=>Ze<|Zn J<|Zu 0 ty3 h37 J J z0)<|ZA (λ γ=>Zf<|λ _ h1=>Ze<|Zn J<|Zj fa42_2 h1 z0)<|ZA (λ γ=>Zw 2 0 J<|λ _ h39=>Ze<|Zn J<|Zu 0 ty3 h39 J J z0)<|ZA (λ γ=>Zw 3 0 J<|λ _ h40=>Ze<|Zn J<|Zj1 h40 J J z0)<|ZA (λ γ=>Zw 4 0 J<|λ _ h41=>Ze<|Zn J<|Zl h41 z0)<|ZA (λ γ=>Zf<|λ _ h1=>Zw 5 0 J<|λ _ h42=>Ze<|Zn (Zg J J h42 hq42)<|Zj fa42_2 h1 z0)<|ZA (λ γ=>Zw 6 0 J<|λ _ h43=>Zw 5 1 J<|λ _ h42=>Ze<|Zn (Zg J J h42 hq42)<|Zu 0 ty3 h43 J J z0)<|ZA (λ γ=>Zw 7 0 J<|λ _ h44=>Zw 5 2 J<|λ _ h42=>Ze<|Zn (Zg J J h42 hq42)<|Zj1 h44 J J z0)<|ZA (λ γ=>Zw 5 3 J<|λ _ h42=>Zw 8 0 J<|λ _ h45=>Ze<|Zn J<|Zt1 h42 hq42 h45 z0)<|ZA (λ γ=>Zw 1 8 J<|λ _ h38=>Ze<|Zn J<|Zk h38 z0)<|ZA (λ γ=>Zw 9 1 J<|λ _ h46=>Ze<|Zn J<|Zk h46 z0)<|Ak<|λ γ=>Zw 10 1 J<|λ r2 h2=>Zw 11 0 J<|λ r3 h3=>Ze ?_;have e2:r2=some _:=h2;subst e2;clear h2;have e3:r3=some _:=h3;subst e3;clear h3;refine Zi<|Zf1<|Za1<|Zd1<|Zh1 J J (.cons (.tmp J)<|.cons (.tmp J)<|.nil) ?_;rw [hr]
  first | done | (simp at hq42;simp [hq42];done) | (simp at hq42;simp [hq42];rfl)
 rw [if_neg h35] at hr;refine Zi1<|Zb1<|Zi<|cd<|ci J<|cb J<|Zf1<|Zh1 J J (.cons (.tmp J)<|.cons (.tmp J)<|.nil) ?_;rw [hr]
 first | done | (simp at hq42;simp [hq42];done) | (simp at hq42;simp [hq42];rfl)
theorem AbZ (i:AQ):AP prog 99 [AL i] (.bool (GP i)):=by
 have hr:=GP.eq_def i;refine Al (nt:=51) func99 J J J ?_;refine cd<|Zc<|Zc2 J J<|λ g1=>(cb J<|Zb<|cd<|cf fa42_1 J<|cg 0 ty3 J J J<|cn<|Zs<|cd<|ce J J J<|cb J<|Zl1 J (λ h5=> ?_)<|λ h5=> ?_)
 .
  rw [if_pos h5] at hr;refine cd<|cf fa42_2 J<|cg 0 ty3 J J J<|Zc<|Zx1 [.tmp 8] J J en77 (N5 _)<|cb J<|Zf1<|Za1<|Zd1<|Zg1 J (.tmp J) ?_
  first | (rw [hr];done) | (rw [hr];rfl) | (rw [hr];refine congrArg V.bool (Bool.eq_iff_iff.2 ?_);simp_all;done) | (rw [hr];refine congrArg V.bool (Bool.eq_iff_iff.2 ?_);simp_all;omega)
 rw [if_neg h5] at hr;refine cd<|ce J J J<|cb J<|Zl1 J (λ h10=> ?_)<|λ h10=> ?_
 .
  rw [if_pos h10] at hr;refine cd<|cf fa42_2 J<|cg 0 ty3 J J J<|Zc<|Zx1 [.tmp 13, .const (.int .i64 (0)), .const (.int .i64 (255))] J J en24 (DD _ _ _)<|cb J<|Zf1<|Za1<|Zd1<|Zg1 J (.tmp J) ?_
  first | (rw [hr];done) | (rw [hr];rfl) | (rw [hr];refine congrArg V.bool (Bool.eq_iff_iff.2 ?_);simp_all;done) | (rw [hr];refine congrArg V.bool (Bool.eq_iff_iff.2 ?_);simp_all;omega)
 rw [if_neg h10] at hr;refine cd<|ce J J J<|cb J<|Zl1 J (λ h15=> ?_)<|λ h15=> ?_
 .
  rw [if_pos h15] at hr;refine cd<|cf fa42_2 J<|cg 0 ty3 J J J<|Zc<|Zx1 [.tmp 18, .const (.int .i64 (0)), .const (.int .i64 (15))] J J en24 (DD _ _ _)<|cb J<|Zf1<|Za1<|Zd1<|Zg1 J (.tmp J) ?_
  first | (rw [hr];done) | (rw [hr];rfl) | (rw [hr];refine congrArg V.bool (Bool.eq_iff_iff.2 ?_);simp_all;done) | (rw [hr];refine congrArg V.bool (Bool.eq_iff_iff.2 ?_);simp_all;omega)
 rw [if_neg h15] at hr;refine Zb<|Ms (q:=20) (x:=4) [(21,9),(22,13)] J J J<|Zi<|Zr1 J (λ h20=> ?_)<|λ h20=> ?_
 .
  rw [if_pos (show Bh i.op [9,13]=true from h20)] at hr;refine cd<|cf fa42_2 J<|cg 0 ty3 J J J<|Zc<|Zx1 [.tmp 24, .const (.int .i64 (0)), .const (.int .i64 (255))] J J en24 (DD _ _ _)<|cb J<|Zf1<|Za1<|Zd1<|Zg1 J (.tmp J) ?_
  first | (rw [hr];done) | (rw [hr];rfl) | (rw [hr];refine congrArg V.bool (Bool.eq_iff_iff.2 ?_);simp_all;done) | (rw [hr];refine congrArg V.bool (Bool.eq_iff_iff.2 ?_);simp_all;omega)
 rw [if_neg (by rw [show Bh i.op [9,13]=false from h20];exact Bool.false_ne_true)] at hr;refine cd<|ce J J J<|cb J<|Zl1 J (λ h26=> ?_)<|λ h26=> ?_
 .
  rw [if_pos h26] at hr;refine cd<|cf fa42_2 J<|cg 0 ty3 J J J<|ce J J J<|ca J<|Zj2 (q:=31) J (λ hq31=> ?_)<|λ hq31=> ?_
  .
   refine Zk0 hq31<|Zk0 hq31<|Zk0 hq31<|Zc<|Zs1 J hq31 J<|ca J<|Zk0 J<|Zk0 J<|Zk0 J<|Zc<|Zs1 J J J<|cb J<|Zf1<|Za1<|Zd1<|Zg1 J (.tmp J) ?_
   first | (rw [hr];done) | (rw [hr];rfl) | (rw [hr];refine congrArg V.bool (Bool.eq_iff_iff.2 ?_);simp_all;done) | (rw [hr];refine congrArg V.bool (Bool.eq_iff_iff.2 ?_);simp_all;omega)
  refine Zc (Zj fa42_2 J ?_)<|Zy0 hq31;refine Zc (Zu 0 ty3 J J J ?_)<|Zy0 hq31;refine Zc (Zj1 J J J ?_)<|Zy0 hq31;refine Zc<|Zt1 J hq31 J<|ca J<|Zj2 (q:=36) J (λ hq36=> ?_)<|λ hq36=> ?_
  .
   refine Zk0 hq36<|Zk0 hq36<|Zk0 hq36<|Zc<|Zs1 J hq36 J<|cb J<|Zf1<|Za1<|Zd1<|Zg1 J (.tmp J) ?_
   first | (rw [hr];done) | (rw [hr];rfl) | (rw [hr];refine congrArg V.bool (Bool.eq_iff_iff.2 ?_);simp_all;done) | (rw [hr];refine congrArg V.bool (Bool.eq_iff_iff.2 ?_);simp_all;omega)
  refine Zc (Zj fa42_2 J ?_)<|Zy0 hq36;refine Zc (Zu 0 ty3 J J J ?_)<|Zy0 hq36;refine Zc (Zj1 J J J ?_)<|Zy0 hq36;refine Zc<|Zt1 J hq36 J<|cb J<|Zf1<|Za1<|Zd1<|Zg1 J (.tmp J) ?_
  first | (rw [hr];done) | (rw [hr];rfl) | (rw [hr];refine congrArg V.bool (Bool.eq_iff_iff.2 ?_);simp_all;done) | (rw [hr];refine congrArg V.bool (Bool.eq_iff_iff.2 ?_);simp_all;omega)
 rw [if_neg h26] at hr;refine cd<|ce J J J<|cb J<|Zl1 J (λ h41=> ?_)<|λ h41=> ?_
 .
  rw [if_pos h41] at hr;refine cd<|cf fa42_2 J<|cg 0 ty3 J J J<|Zc<|Zx1 [.tmp 44, .const (.int .i64 (0)), .const (.int .i64 (3))] J J en24 (DD _ _ _)<|cb J<|Zf1<|Za1<|Zd1<|Zg1 J (.tmp J) ?_
  first | (rw [hr];done) | (rw [hr];rfl) | (rw [hr];refine congrArg V.bool (Bool.eq_iff_iff.2 ?_);simp_all;done) | (rw [hr];refine congrArg V.bool (Bool.eq_iff_iff.2 ?_);simp_all;omega)
 rw [if_neg h41] at hr;refine cd<|ce J J J<|cb J<|Zl1 J (λ h46=> ?_)<|λ h46=> ?_
 .
  rw [if_pos h46] at hr;refine cd<|cb J<|Zf1<|Za1<|Zd1<|Zg1 J (.tmp J) ?_
  first | (rw [hr];done) | (rw [hr];rfl) | (rw [hr];refine congrArg V.bool (Bool.eq_iff_iff.2 ?_);simp_all;done) | (rw [hr];refine congrArg V.bool (Bool.eq_iff_iff.2 ?_);simp_all;omega)
 rw [if_neg h46] at hr;refine Zi1<|Zb1<|Zi<|cd<|cf fa42_2 J<|cg 0 ty3 J J J<|ce J J J<|cb J<|Zf1<|Zg1 J (.tmp J) ?_
 first | (rw [hr];done) | (rw [hr];rfl) | (rw [hr];refine congrArg V.bool (Bool.eq_iff_iff.2 ?_);simp_all;done) | (rw [hr];refine congrArg V.bool (Bool.eq_iff_iff.2 ?_);simp_all;omega)
theorem AdI (t:BG):AP prog 76 [He t] (.bool (Dh t)):=by
 have hr:=Dh.eq_def t;refine Al (nt:=53) func76 J J J ?_;refine cd<|Zc<|Zc2 J J<|λ g1=>(cb J<|cd<|ci J<|ci J<|ci J<|cb J<|Zb<|cd<|cf fa38_0 J<|cg 0 ty3 J J J<|cn<|Zs<|cd<|ce J J J<|cb J<|Zl1 J (λ h9=> ?_)<|λ h9=> ?_)
 .
  rw [if_pos h9] at hr;refine Zd<|ci J<|Za<|Zb1<|Zi<|cd<|cf fa38_4 J<|cg 0 ty36 J J J<|Zc<|Zd2 (n:=t.to.length) underlying36 J (by simp)<|λ hl25=>(ca J<|ce J J J<|ca J<|Zj2 (q:=28) J (λ hq28=> ?_)<|λ hq28=> ?_)
  .
   have hq28x:=hq28
   try rw [Ej hl25 hl19] at hq28x
   refine Zc (Zl J ?_)<|Zy1 hq28;refine Zc (Zl J ?_)<|Zy1 hq28;refine Zk0 J<|Zk0 J<|Zk0 J<|Zc (Zs1 J J J ?_)<|Zy1 hq28;refine Zc<|Zs1 J hq28 J<|ca J<|Zc (Zl J ?_)<|Zy1 J;refine Zc (Zl J ?_)<|Zy1 J;refine Zc (Zj fa38_2 J ?_)<|Zy0 J;refine Zc (Zu 0 ty3 J J J ?_)<|Zy0 J;refine Zc (Zj1 J J J ?_)<|Zy0 J;refine Zc (Zt1 J J J ?_)<|Zy1 J;refine Zc<|Zs1 J J J<|ca J<|Zj2 (q:=44) J (λ hq44=> ?_)<|λ hq44=> ?_
   .
    refine Zc (Zl J ?_)<|Zy1 hq44;refine Zc (Zl J ?_)<|Zy1 hq44;refine Zc (Zj fa38_3 J ?_)<|Zy0 J;refine Zc (Zu 0 ty32 J J J ?_)<|Zy0 J;refine Zc (Zd2 (n:=t.cases.length) underlying32 J (by simp)<|λ hl49=> ?_)<|Zy0 J;refine Zc (Zj1 J J J ?_)<|Zy0 J;refine Zc (Zt1 J J J ?_)<|Zy1 hq44;refine Zc<|Zs1 J hq44 J<|cb J<|Zf1<|Zg1 J (.tmp J) ?_
    first | (rw [hr];done) | (rw [hr];rfl) | (rw [hr];refine congrArg V.bool (Bool.eq_iff_iff.2 ?_);simp_all;done) | (rw [hr];refine congrArg V.bool (Bool.eq_iff_iff.2 ?_);simp_all;omega)
   refine Zk1 hq44<|Zk1 hq44<|Zh (.inr ⟨_,_,46,J,J,J⟩) J<|Zh (.inr ⟨_,_,46,J,J,J⟩) J<|Zh (.inr ⟨_,_,46,J,J,J⟩) J<|Zh (.inr ⟨_,_,46,J,J,J⟩) J<|Zk1 hq44<|Zc<|Zt1 J hq44 J<|cb J<|Zf1<|Zg1 J (.tmp J) ?_
   first | (rw [hr];done) | (rw [hr];rfl) | (rw [hr];refine congrArg V.bool (Bool.eq_iff_iff.2 ?_);simp_all;done) | (rw [hr];refine congrArg V.bool (Bool.eq_iff_iff.2 ?_);simp_all;omega)
  have hq28x:=hq28
  try rw [Ej hl25 hl19] at hq28x
  refine Zk1 hq28<|Zk1 hq28<|Zh (.inr ⟨_,_,30,J,J,J⟩) J<|Zh (.inr ⟨_,_,30,J,J,J⟩) J<|Zh (.inr ⟨_,_,30,J,J,J⟩) J<|Zk1 hq28<|Zc<|Zt1 J hq28 J<|ca J<|Zk1 J<|Zk1 J<|Zh (.inr ⟨_,_,38,J,J,J⟩) J<|Zh (.inr ⟨_,_,38,J,J,J⟩) J<|Zh (.inr ⟨_,_,38,J,J,J⟩) J<|Zk1 J<|Zc<|Zt1 J J J<|ca J<|Zk1 J<|Zk1 J<|Zh (.inr ⟨_,_,46,J,J,J⟩) J<|Zh (.inr ⟨_,_,46,J,J,J⟩) J<|Zh (.inr ⟨_,_,46,J,J,J⟩) J<|Zh (.inr ⟨_,_,46,J,J,J⟩) J<|Zk1 J<|Zc<|Zt1 J J J<|cb J<|Zf1<|Zg1 J (.tmp J) ?_
  first | (rw [hr];done) | (rw [hr];rfl) | (rw [hr];refine congrArg V.bool (Bool.eq_iff_iff.2 ?_);simp_all;done) | (rw [hr];refine congrArg V.bool (Bool.eq_iff_iff.2 ?_);simp_all;omega)
 rw [if_neg h9] at hr;refine cd<|ce J J J<|cb J<|Zl1 J (λ h11=> ?_)<|λ h11=> ?_
 .
  rw [if_pos h11] at hr;refine Zd<|ci J<|Za<|Zb1<|Zi<|cd<|cf fa38_4 J<|cg 0 ty36 J J J<|Zc<|Zd2 (n:=t.to.length) underlying36 J (by simp)<|λ hl25=>(ca J<|ce J J J<|ca J<|Zj2 (q:=28) J (λ hq28=> ?_)<|λ hq28=> ?_)
  .
   have hq28x:=hq28
   try rw [Ej hl25 hl19] at hq28x
   refine Zc (Zl J ?_)<|Zy1 hq28;refine Zc (Zl J ?_)<|Zy1 hq28;refine Zc (Zj fa38_1 J ?_)<|Zy0 J;refine Zc (Zu 0 ty3 J J J ?_)<|Zy0 J;refine Zc (Zj1 J J J ?_)<|Zy0 J;refine Zc (Zt1 J J J ?_)<|Zy1 hq28;refine Zc<|Zs1 J hq28 J<|ca J<|Zj2 (q:=36) J (λ hq36=> ?_)<|λ hq36=> ?_
   .
    refine Zc (Zl J ?_)<|Zy1 hq36;refine Zc (Zl J ?_)<|Zy1 hq36;refine Zc (Zj fa38_2 J ?_)<|Zy0 J;refine Zc (Zu 0 ty3 J J J ?_)<|Zy0 J;refine Zc (Zj1 J J J ?_)<|Zy0 J;refine Zc (Zt1 J J J ?_)<|Zy1 hq36;refine Zc<|Zs1 J hq36 J<|ca J<|Zj2 (q:=44) J (λ hq44=> ?_)<|λ hq44=> ?_
    .
     refine Zc (Zl J ?_)<|Zy1 hq44;refine Zc (Zl J ?_)<|Zy1 hq44;refine Zc (Zj fa38_3 J ?_)<|Zy0 J;refine Zc (Zu 0 ty32 J J J ?_)<|Zy0 J;refine Zc (Zd2 (n:=t.cases.length) underlying32 J (by simp)<|λ hl49=> ?_)<|Zy0 J;refine Zc (Zj1 J J J ?_)<|Zy0 J;refine Zc (Zt1 J J J ?_)<|Zy1 hq44;refine Zc<|Zs1 J hq44 J<|cb J<|Zf1<|Zg1 J (.tmp J) ?_
     first | (rw [hr];done) | (rw [hr];rfl) | (rw [hr];refine congrArg V.bool (Bool.eq_iff_iff.2 ?_);simp_all;done) | (rw [hr];refine congrArg V.bool (Bool.eq_iff_iff.2 ?_);simp_all;omega)
    refine Zk1 hq44<|Zk1 hq44<|Zh (.inr ⟨_,_,46,J,J,J⟩) J<|Zh (.inr ⟨_,_,46,J,J,J⟩) J<|Zh (.inr ⟨_,_,46,J,J,J⟩) J<|Zh (.inr ⟨_,_,46,J,J,J⟩) J<|Zk1 hq44<|Zc<|Zt1 J hq44 J<|cb J<|Zf1<|Zg1 J (.tmp J) ?_
    first | (rw [hr];done) | (rw [hr];rfl) | (rw [hr];refine congrArg V.bool (Bool.eq_iff_iff.2 ?_);simp_all;done) | (rw [hr];refine congrArg V.bool (Bool.eq_iff_iff.2 ?_);simp_all;omega)
   refine Zk1 hq36<|Zk1 hq36<|Zh (.inr ⟨_,_,38,J,J,J⟩) J<|Zh (.inr ⟨_,_,38,J,J,J⟩) J<|Zh (.inr ⟨_,_,38,J,J,J⟩) J<|Zk1 hq36<|Zc<|Zt1 J hq36 J<|ca J<|Zk1 J<|Zk1 J<|Zh (.inr ⟨_,_,46,J,J,J⟩) J<|Zh (.inr ⟨_,_,46,J,J,J⟩) J<|Zh (.inr ⟨_,_,46,J,J,J⟩) J<|Zh (.inr ⟨_,_,46,J,J,J⟩) J<|Zk1 J<|Zc<|Zt1 J J J<|cb J<|Zf1<|Zg1 J (.tmp J) ?_
   first | (rw [hr];done) | (rw [hr];rfl) | (rw [hr];refine congrArg V.bool (Bool.eq_iff_iff.2 ?_);simp_all;done) | (rw [hr];refine congrArg V.bool (Bool.eq_iff_iff.2 ?_);simp_all;omega)
  have hq28x:=hq28
  try rw [Ej hl25 hl19] at hq28x
  refine Zk1 hq28<|Zk1 hq28<|Zh (.inr ⟨_,_,30,J,J,J⟩) J<|Zh (.inr ⟨_,_,30,J,J,J⟩) J<|Zh (.inr ⟨_,_,30,J,J,J⟩) J<|Zk1 hq28<|Zc<|Zt1 J hq28 J<|ca J<|Zk1 J<|Zk1 J<|Zh (.inr ⟨_,_,38,J,J,J⟩) J<|Zh (.inr ⟨_,_,38,J,J,J⟩) J<|Zh (.inr ⟨_,_,38,J,J,J⟩) J<|Zk1 J<|Zc<|Zt1 J J J<|ca J<|Zk1 J<|Zk1 J<|Zh (.inr ⟨_,_,46,J,J,J⟩) J<|Zh (.inr ⟨_,_,46,J,J,J⟩) J<|Zh (.inr ⟨_,_,46,J,J,J⟩) J<|Zh (.inr ⟨_,_,46,J,J,J⟩) J<|Zk1 J<|Zc<|Zt1 J J J<|cb J<|Zf1<|Zg1 J (.tmp J) ?_
  first | (rw [hr];done) | (rw [hr];rfl) | (rw [hr];refine congrArg V.bool (Bool.eq_iff_iff.2 ?_);simp_all;done) | (rw [hr];refine congrArg V.bool (Bool.eq_iff_iff.2 ?_);simp_all;omega)
 rw [if_neg h11] at hr;refine cd<|ce J J J<|cb J<|Zl1 J (λ h13=> ?_)<|λ h13=> ?_
 .
  rw [if_pos h13] at hr;refine Zd<|ci J<|ci J<|Za<|Zb1<|Zi<|cd<|cf fa38_4 J<|cg 0 ty36 J J J<|Zc<|Zd2 (n:=t.to.length) underlying36 J (by simp)<|λ hl25=>(ca J<|ce J J J<|ca J<|Zj2 (q:=28) J (λ hq28=> ?_)<|λ hq28=> ?_)
  .
   have hq28x:=hq28
   try rw [Ej hl25 hl19] at hq28x
   refine Zc (Zl J ?_)<|Zy1 hq28;refine Zc (Zl J ?_)<|Zy1 hq28;refine Zk0 J<|Zk0 J<|Zk0 J<|Zc (Zs1 J J J ?_)<|Zy1 hq28;refine Zc<|Zs1 J hq28 J<|ca J<|Zc (Zl J ?_)<|Zy1 J;refine Zc (Zl J ?_)<|Zy1 J;refine Zc (Zj fa38_2 J ?_)<|Zy0 J;refine Zc (Zu 0 ty3 J J J ?_)<|Zy0 J;refine Zc (Zj1 J J J ?_)<|Zy0 J;refine Zc (Zt1 J J J ?_)<|Zy1 J;refine Zc<|Zs1 J J J<|ca J<|Zj2 (q:=44) J (λ hq44=> ?_)<|λ hq44=> ?_
   .
    refine Zc (Zl J ?_)<|Zy1 hq44;refine Zc (Zl J ?_)<|Zy1 hq44;refine Zc (Zj fa38_3 J ?_)<|Zy0 J;refine Zc (Zu 0 ty32 J J J ?_)<|Zy0 J;refine Zc (Zd2 (n:=t.cases.length) underlying32 J (by simp)<|λ hl49=> ?_)<|Zy0 J;refine Zc (Zj1 J J J ?_)<|Zy0 J;refine Zc (Zt1 J J J ?_)<|Zy1 hq44;refine Zc<|Zs1 J hq44 J<|cb J<|Zf1<|Zg1 J (.tmp J) ?_
    first | (rw [hr];done) | (rw [hr];rfl) | (rw [hr];refine congrArg V.bool (Bool.eq_iff_iff.2 ?_);simp_all;done) | (rw [hr];refine congrArg V.bool (Bool.eq_iff_iff.2 ?_);simp_all;omega)
   refine Zk1 hq44<|Zk1 hq44<|Zh (.inr ⟨_,_,46,J,J,J⟩) J<|Zh (.inr ⟨_,_,46,J,J,J⟩) J<|Zh (.inr ⟨_,_,46,J,J,J⟩) J<|Zh (.inr ⟨_,_,46,J,J,J⟩) J<|Zk1 hq44<|Zc<|Zt1 J hq44 J<|cb J<|Zf1<|Zg1 J (.tmp J) ?_
   first | (rw [hr];done) | (rw [hr];rfl) | (rw [hr];refine congrArg V.bool (Bool.eq_iff_iff.2 ?_);simp_all;done) | (rw [hr];refine congrArg V.bool (Bool.eq_iff_iff.2 ?_);simp_all;omega)
  have hq28x:=hq28
  try rw [Ej hl25 hl19] at hq28x
  refine Zk1 hq28<|Zk1 hq28<|Zh (.inr ⟨_,_,30,J,J,J⟩) J<|Zh (.inr ⟨_,_,30,J,J,J⟩) J<|Zh (.inr ⟨_,_,30,J,J,J⟩) J<|Zk1 hq28<|Zc<|Zt1 J hq28 J<|ca J<|Zk1 J<|Zk1 J<|Zh (.inr ⟨_,_,38,J,J,J⟩) J<|Zh (.inr ⟨_,_,38,J,J,J⟩) J<|Zh (.inr ⟨_,_,38,J,J,J⟩) J<|Zk1 J<|Zc<|Zt1 J J J<|ca J<|Zk1 J<|Zk1 J<|Zh (.inr ⟨_,_,46,J,J,J⟩) J<|Zh (.inr ⟨_,_,46,J,J,J⟩) J<|Zh (.inr ⟨_,_,46,J,J,J⟩) J<|Zh (.inr ⟨_,_,46,J,J,J⟩) J<|Zk1 J<|Zc<|Zt1 J J J<|cb J<|Zf1<|Zg1 J (.tmp J) ?_
  first | (rw [hr];done) | (rw [hr];rfl) | (rw [hr];refine congrArg V.bool (Bool.eq_iff_iff.2 ?_);simp_all;done) | (rw [hr];refine congrArg V.bool (Bool.eq_iff_iff.2 ?_);simp_all;omega)
 rw [if_neg h13] at hr;refine cd<|ce J J J<|cb J<|Zl1 J (λ h15=> ?_)<|λ h15=> ?_
 .
  rw [if_pos h15] at hr;refine Zd<|cf fa38_3 J<|cg 0 ty32 J J J<|Zc<|Zd2 (n:=t.cases.length) underlying32 J (by simp)<|λ hl19=>(ce J J J<|ci J<|ci J<|ci J<|Za<|Zb1<|Zi<|cd<|cf fa38_4 J<|cg 0 ty36 J J J<|Zc<|Zd2 (n:=t.to.length) underlying36 J (by simp)<|λ hl25=>(ca J<|ce J J J<|ca J<|Zj2 (q:=28) J (λ hq28=> ?_)<|λ hq28=> ?_))
  .
   have hq28x:=hq28
   try rw [Ej hl25 hl19] at hq28x
   refine Zc (Zl J ?_)<|Zy1 hq28;refine Zc (Zl J ?_)<|Zy1 hq28;refine Zk0 J<|Zk0 J<|Zk0 J<|Zc (Zs1 J J J ?_)<|Zy1 hq28;refine Zc<|Zs1 J hq28 J<|ca J<|Zc (Zl J ?_)<|Zy1 J;refine Zc (Zl J ?_)<|Zy1 J;refine Zc (Zj fa38_2 J ?_)<|Zy0 J;refine Zc (Zu 0 ty3 J J J ?_)<|Zy0 J;refine Zc (Zj1 J J J ?_)<|Zy0 J;refine Zc (Zt1 J J J ?_)<|Zy1 J;refine Zc<|Zs1 J J J<|ca J<|Zj2 (q:=44) J (λ hq44=> ?_)<|λ hq44=> ?_
   .
    refine Zc (Zl J ?_)<|Zy1 hq44;refine Zc (Zl J ?_)<|Zy1 hq44;refine Zk0 J<|Zk0 J<|Zk0 J<|Zk0 J<|Zc (Zs1 J J J ?_)<|Zy1 hq44;refine Zc<|Zs1 J hq44 J<|cb J<|Zf1<|Zg1 J (.tmp J) ?_
    first | (rw [hr];done) | (rw [hr];rfl) | (rw [hr];refine congrArg V.bool (Bool.eq_iff_iff.2 ?_);simp_all;done) | (rw [hr];refine congrArg V.bool (Bool.eq_iff_iff.2 ?_);simp_all;omega)
   refine Zk1 hq44<|Zk1 hq44<|Zh (.inr ⟨_,_,46,J,J,J⟩) J<|Zh (.inr ⟨_,_,46,J,J,J⟩) J<|Zh (.inr ⟨_,_,46,J,J,J⟩) J<|Zh (.inr ⟨_,_,46,J,J,J⟩) J<|Zk1 hq44<|Zc<|Zt1 J hq44 J<|cb J<|Zf1<|Zg1 J (.tmp J) ?_
   first | (rw [hr];done) | (rw [hr];rfl) | (rw [hr];refine congrArg V.bool (Bool.eq_iff_iff.2 ?_);simp_all;done) | (rw [hr];refine congrArg V.bool (Bool.eq_iff_iff.2 ?_);simp_all;omega)
  have hq28x:=hq28
  try rw [Ej hl25 hl19] at hq28x
  refine Zk1 hq28<|Zk1 hq28<|Zh (.inr ⟨_,_,30,J,J,J⟩) J<|Zh (.inr ⟨_,_,30,J,J,J⟩) J<|Zh (.inr ⟨_,_,30,J,J,J⟩) J<|Zk1 hq28<|Zc<|Zt1 J hq28 J<|ca J<|Zk1 J<|Zk1 J<|Zh (.inr ⟨_,_,38,J,J,J⟩) J<|Zh (.inr ⟨_,_,38,J,J,J⟩) J<|Zh (.inr ⟨_,_,38,J,J,J⟩) J<|Zk1 J<|Zc<|Zt1 J J J<|ca J<|Zk1 J<|Zk1 J<|Zh (.inr ⟨_,_,46,J,J,J⟩) J<|Zh (.inr ⟨_,_,46,J,J,J⟩) J<|Zh (.inr ⟨_,_,46,J,J,J⟩) J<|Zh (.inr ⟨_,_,46,J,J,J⟩) J<|Zk1 J<|Zc<|Zt1 J J J<|cb J<|Zf1<|Zg1 J (.tmp J) ?_
  first | (rw [hr];done) | (rw [hr];rfl) | (rw [hr];refine congrArg V.bool (Bool.eq_iff_iff.2 ?_);simp_all;done) | (rw [hr];refine congrArg V.bool (Bool.eq_iff_iff.2 ?_);simp_all;omega)
 rw [if_neg h15] at hr;refine cd<|ce J J J<|cb J<|Zl1 J (λ h21=> ?_)<|λ h21=> ?_
 .
  rw [if_pos h21] at hr;refine Zd<|ci J<|Za<|Zb1<|Zi<|cd<|cf fa38_4 J<|cg 0 ty36 J J J<|Zc<|Zd2 (n:=t.to.length) underlying36 J (by simp)<|λ hl25=>(ca J<|ce J J J<|ca J<|Zj2 (q:=28) J (λ hq28=> ?_)<|λ hq28=> ?_)
  .
   have hq28x:=hq28
   try rw [Ej hl25 hl19] at hq28x
   refine Zc (Zl J ?_)<|Zy1 hq28;refine Zc (Zl J ?_)<|Zy1 hq28;refine Zc (Zj fa38_1 J ?_)<|Zy0 J;refine Zc (Zu 0 ty3 J J J ?_)<|Zy0 J;refine Zc (Zj1 J J J ?_)<|Zy0 J;refine Zc (Zt1 J J J ?_)<|Zy1 hq28;refine Zc<|Zs1 J hq28 J<|ca J<|Zj2 (q:=36) J (λ hq36=> ?_)<|λ hq36=> ?_
   .
    refine Zc (Zl J ?_)<|Zy1 hq36;refine Zc (Zl J ?_)<|Zy1 hq36;refine Zk0 J<|Zk0 J<|Zk0 J<|Zc (Zs1 J J J ?_)<|Zy1 hq36;refine Zc<|Zs1 J hq36 J<|ca J<|Zc (Zl J ?_)<|Zy1 J;refine Zc (Zl J ?_)<|Zy1 J;refine Zc (Zj fa38_3 J ?_)<|Zy0 J;refine Zc (Zu 0 ty32 J J J ?_)<|Zy0 J;refine Zc (Zd2 (n:=t.cases.length) underlying32 J (by simp)<|λ hl49=> ?_)<|Zy0 J;refine Zc (Zj1 J J J ?_)<|Zy0 J;refine Zc (Zt1 J J J ?_)<|Zy1 J;refine Zc<|Zs1 J J J<|cb J<|Zf1<|Zg1 J (.tmp J) ?_
    first | (rw [hr];done) | (rw [hr];rfl) | (rw [hr];refine congrArg V.bool (Bool.eq_iff_iff.2 ?_);simp_all;done) | (rw [hr];refine congrArg V.bool (Bool.eq_iff_iff.2 ?_);simp_all;omega)
   refine Zk1 hq36<|Zk1 hq36<|Zh (.inr ⟨_,_,38,J,J,J⟩) J<|Zh (.inr ⟨_,_,38,J,J,J⟩) J<|Zh (.inr ⟨_,_,38,J,J,J⟩) J<|Zk1 hq36<|Zc<|Zt1 J hq36 J<|ca J<|Zk1 J<|Zk1 J<|Zh (.inr ⟨_,_,46,J,J,J⟩) J<|Zh (.inr ⟨_,_,46,J,J,J⟩) J<|Zh (.inr ⟨_,_,46,J,J,J⟩) J<|Zh (.inr ⟨_,_,46,J,J,J⟩) J<|Zk1 J<|Zc<|Zt1 J J J<|cb J<|Zf1<|Zg1 J (.tmp J) ?_
   first | (rw [hr];done) | (rw [hr];rfl) | (rw [hr];refine congrArg V.bool (Bool.eq_iff_iff.2 ?_);simp_all;done) | (rw [hr];refine congrArg V.bool (Bool.eq_iff_iff.2 ?_);simp_all;omega)
  have hq28x:=hq28
  try rw [Ej hl25 hl19] at hq28x
  refine Zk1 hq28<|Zk1 hq28<|Zh (.inr ⟨_,_,30,J,J,J⟩) J<|Zh (.inr ⟨_,_,30,J,J,J⟩) J<|Zh (.inr ⟨_,_,30,J,J,J⟩) J<|Zk1 hq28<|Zc<|Zt1 J hq28 J<|ca J<|Zk1 J<|Zk1 J<|Zh (.inr ⟨_,_,38,J,J,J⟩) J<|Zh (.inr ⟨_,_,38,J,J,J⟩) J<|Zh (.inr ⟨_,_,38,J,J,J⟩) J<|Zk1 J<|Zc<|Zt1 J J J<|ca J<|Zk1 J<|Zk1 J<|Zh (.inr ⟨_,_,46,J,J,J⟩) J<|Zh (.inr ⟨_,_,46,J,J,J⟩) J<|Zh (.inr ⟨_,_,46,J,J,J⟩) J<|Zh (.inr ⟨_,_,46,J,J,J⟩) J<|Zk1 J<|Zc<|Zt1 J J J<|cb J<|Zf1<|Zg1 J (.tmp J) ?_
  first | (rw [hr];done) | (rw [hr];rfl) | (rw [hr];refine congrArg V.bool (Bool.eq_iff_iff.2 ?_);simp_all;done) | (rw [hr];refine congrArg V.bool (Bool.eq_iff_iff.2 ?_);simp_all;omega)
 rw [if_neg h21] at hr;refine cd<|cb J<|Zf1<|Za1<|Zd1<|Zg1 J (.tmp J) ?_
 first | (rw [hr];done) | (rw [hr];rfl) | (rw [hr];refine congrArg V.bool (Bool.eq_iff_iff.2 ?_);simp_all;done) | (rw [hr];refine congrArg V.bool (Bool.eq_iff_iff.2 ?_);simp_all;omega)
theorem JF (l:List Int)(tok:Option Tok)(v:Int):AP prog 56 [.sl 1 tok (l.map V.int), .int v] (.int (idxOf (λ x=>decide (v=x)) l)):=by
 refine Al (nt:=19) func56 J J J ?_;refine cd<|cb J<|Zb<|cd<|ca J<|Zc<|Zd2 (n:=l.length) underlying32 J (by simp)<|λ hl7=>(ca J<|cn<|Zs<|Zi2 (ι:=Nat) (λ k=>l.length - k) (λ k=> [(0,some (.sl 1 tok (l.map V.int))),(1,some (.int v)),(7,some (.int l.length)),(8,some (.int k))]) (λ k=> []) (λ k=>k<=l.length/\(l.take k).any (λ x=>decide (v=x))=false) 0 ⟨Nat.zero_le _,J⟩ cv (Zt2 _) ?_);rintro k hA;change k<=l.length/\(l.take k).any (λ x=>decide (v=x))=false at hA;obtain ⟨hk,hany⟩:=hA;refine cd<|cj J J J<|Zb<|Zn1 J (λ h9=> ?_)<|λ h9=> ?_
 .
  obtain⟨x,hr⟩:=Ab l k h9;refine co<|Zb<|Zs<|cd<|ca J<|cb J<|cd<|ca J<|ca J<|ca J<|Zc<|Zz (el:=V.int x) sl32 J J (by omega) (Bn hr)<|λ a14=>(Zc<|Zz1 ty3 J J<|cj J J J<|Zl1 J (λ h16=> ?_)<|λ h16=> ?_)
  .
   refine cd<|ca J<|cb J<|Zf1<|Za1<|Zd1<|Zd1<|Za1<|Zd1<|Zg1 J (.tmp J) ?_;rw [Gi (λ x=>decide (v=x)) hr hany (decide_eq_true h16)]
  refine Zi1<|Zb1<|Zi<|Zd<|cm J J<|ca J<|Za<|Zi ?_;exact ⟨k+1,(by (try simp only []);omega),⟨by omega,Ha hr hany (decide_eq_false h16)⟩,cv,(Drops.nil _)⟩
 have hke:k=l.length:=by omega
 subst hke;rw [List.take_length] at hany;refine Zt<|Ze1<|Ze1<|Zc1<|Zi<|cd<|cb J<|Zf1<|Zg1 J (.tmp J) ?_;rw [El (λ x=>decide (v=x)) hany]
theorem Ft (l:List Int)(tok:Option Tok)(v:Int):AP prog 44 [.sl 1 tok (l.map V.int), .int v] (.bool (l.any λx=>decide (v=x))):=by
 refine Al (nt:=9) func44 J J J ?_;refine cd<|cb J<|cd<|ca J<|ca J<|Zc<|Zx1 [.tmp 5, .tmp 6] J J en56 (JF l tok v)<|ce J J J<|cb J<|Zf1<|Zg1 J (.tmp J) ?_;rw [H2]
theorem Ab0 (i:AQ):AP prog 75 [AL i] (.int (FQ i)):=by
 have hr:=FQ.eq_def i;refine Al (nt:=68) func75 J J J ?_;refine cd<|Zc<|Zc2 J J<|λ g1=>(cb J<|cd<|Zc<|Zv 0 ty42 J J J<|Zc<|Zx1 [.tmp 6] J J en98 (U4 i)<|ca J<|Zc<|Zg2 J J<|Zc<|Zg2 J J<|ci J<|cb J<|Zb<|Zs<|FZ [(1,some (.ptr g1 0)),(10,some (.bool (De i)))] [.cells g1 42 [.int i.to, .int i.op, .int i.n,Ad i.args]] ?_ ?_)
 .
  refine Zd<|ca J<|Zc<|Zl2 J<|ca J<|Zj2 (q:=13) J (λ hq13=> ?_)<|λ hq13=> ?_
  .
   refine Zk0 hq13<|Zk0 hq13<|Zk0 hq13<|Zh (.inr ⟨_,_,16,J,J,J⟩) J<|Zh (.inr ⟨_,_,16,J,J,J⟩) J<|Zh (.inr ⟨_,_,16,J,J,J⟩) J<|Zh (.inr ⟨_,_,16,J,J,J⟩) J<|Zh (.inr ⟨_,_,16,J,J,J⟩) J<|Zk0 hq13<|Zc<|Zs1 J hq13 J<|ca J<|Zk0 J<|Zk0 J<|Zk0 J<|Zk0 J<|Zh (.inr ⟨_,_,28,J,J,J⟩) J<|Zh (.inr ⟨_,_,28,J,J,J⟩) J<|Zh (.inr ⟨_,_,28,J,J,J⟩) J<|Zh (.inr ⟨_,_,28,J,J,J⟩) J<|Zk0 J<|Zc<|Zs1 J J J<|ci J<|Za<|Zi ?_;exact ⟨⟨rfl,(congrArg (λ b=>some (V.bool b)) (Bool.eq_iff_iff.2 (by first | (simp_all [De];done) | (simp_all [De];omega)))),trivial⟩,(Dk (Zt2 _))⟩
  refine Zc (Zl J ?_)<|Zy0 hq13;refine Zc (Zj1 J J J ?_)<|Zy0 hq13;refine Zc (Zl J ?_)<|Zy0 hq13;refine Zj2 (q:=16) J (λ hq16=> ?_)<|λ hq16=> ?_
  .
   refine Zc (Zj fa42_3 J ?_)<|Zy1 hq16;refine Zc (Zu 0 ty32 J J J ?_)<|Zy1 hq16;refine Zc (Zd2 (n:=i.args.length) underlying32 J (by simp)<|λ hl19=> ?_)<|Zy1 hq16;refine Zc (Zl J ?_)<|Zy1 hq16;refine Zc (Zj1 J J J ?_)<|Zy1 hq16;refine Zc (Zs1 J hq16 J ?_)<|Zy0 hq13;refine Zc<|Zt1 J hq13 J<|ca J<|Zj2 (q:=24) J (λ hq24=> ?_)<|λ hq24=> ?_
   .
    refine Zk0 hq24<|Zk0 hq24<|Zk0 hq24<|Zk0 hq24<|Zh (.inr ⟨_,_,28,J,J,J⟩) J<|Zh (.inr ⟨_,_,28,J,J,J⟩) J<|Zh (.inr ⟨_,_,28,J,J,J⟩) J<|Zh (.inr ⟨_,_,28,J,J,J⟩) J<|Zk0 hq24<|Zc<|Zs1 J hq24 J<|ci J<|Za<|Zi ?_;exact ⟨⟨rfl,(congrArg (λ b=>some (V.bool b)) (Bool.eq_iff_iff.2 (by first | (simp_all [De];done) | (simp_all [De];omega)))),trivial⟩,(Dk (Zt2 _))⟩
   refine Zc (Zj fa42_1 J ?_)<|Zy0 hq24;refine Zc (Zu 0 ty3 J J J ?_)<|Zy0 hq24;refine Zc (Zj1 J J J ?_)<|Zy0 hq24;refine Zc (Zl J ?_)<|Zy0 hq24;refine Zj2 (q:=28) J (λ hq28=> ?_)<|λ hq28=> ?_
   .
    refine Zc (Zj fa42_3 J ?_)<|Zy1 hq28;refine Zc (Zu 0 ty32 J J J ?_)<|Zy1 hq28;refine Zc (Zd2 (n:=i.args.length) underlying32 J (by simp)<|λ hl31=> ?_)<|Zy1 hq28;refine Zc (Zj1 J J J ?_)<|Zy1 hq28;refine Zc (Zs1 J hq28 J ?_)<|Zy0 hq24;refine Zc<|Zt1 J hq24 J<|ci J<|Za<|Zi ?_;exact ⟨⟨rfl,(congrArg (λ b=>some (V.bool b)) (Bool.eq_iff_iff.2 (by first | (simp_all [De];done) | (simp_all [De];omega)))),trivial⟩,(Dk (Zt2 _))⟩
   refine Zk1 hq28<|Zk1 hq28<|Zk1 hq28<|Zk1 hq28<|Zc (Zt1 J hq28 J ?_)<|Zy0 hq24;refine Zc<|Zt1 J hq24 J<|ci J<|Za<|Zi ?_;exact ⟨⟨rfl,(congrArg (λ b=>some (V.bool b)) (Bool.eq_iff_iff.2 (by first | (simp_all [De];done) | (simp_all [De];omega)))),trivial⟩,(Dk (Zt2 _))⟩
  refine Zk1 hq16<|Zk1 hq16<|Zk1 hq16<|Zk1 hq16<|Zk1 hq16<|Zc (Zt1 J hq16 J ?_)<|Zy0 hq13;refine Zc<|Zt1 J hq13 J<|ca J<|Zc (Zj fa42_1 J ?_)<|Zy0 J;refine Zc (Zu 0 ty3 J J J ?_)<|Zy0 J;refine Zc (Zj1 J J J ?_)<|Zy0 J;refine Zc (Zl J ?_)<|Zy0 J;refine Zj2 (q:=28) J (λ hq28=> ?_)<|λ hq28=> ?_
  .
   refine Zc (Zj fa42_3 J ?_)<|Zy1 hq28;refine Zc (Zu 0 ty32 J J J ?_)<|Zy1 hq28;refine Zc (Zd2 (n:=i.args.length) underlying32 J (by simp)<|λ hl31=> ?_)<|Zy1 hq28;refine Zc (Zj1 J J J ?_)<|Zy1 hq28;refine Zc (Zs1 J hq28 J ?_)<|Zy0 J;refine Zc<|Zt1 J J J<|ci J<|Za<|Zi ?_;exact ⟨⟨rfl,(congrArg (λ b=>some (V.bool b)) (Bool.eq_iff_iff.2 (by first | (simp_all [De];done) | (simp_all [De];omega)))),trivial⟩,(Dk (Zt2 _))⟩
  refine Zk1 hq28<|Zk1 hq28<|Zk1 hq28<|Zk1 hq28<|Zc (Zt1 J hq28 J ?_)<|Zy0 J;refine Zc<|Zt1 J J J<|ci J<|Za<|Zi ?_;exact ⟨⟨rfl,(congrArg (λ b=>some (V.bool b)) (Bool.eq_iff_iff.2 (by first | (simp_all [De];done) | (simp_all [De];omega)))),trivial⟩,(Dk (Zt2 _))⟩
 refine Zr1 J (λ h10=> ?_)<|λ h10=> ?_
 .
  rw [if_pos h10] at hr;refine cd<|cb J<|Zf1<|Za1<|Zd1<|Zg1 J (.tmp J) ?_;rw [hr]
 rw [if_neg (by rw [h10];exact Bool.false_ne_true)] at hr;refine FZ [(1,some (.ptr g1 0)),(35,some (.bool (A0 i)))] [.cells g1 42 [.int i.to, .int i.op, .int i.n,Ad i.args]] ?_ ?_
 .
  refine cd<|cf fa42_1 J<|cg 0 ty3 J J J<|ce J J J<|ca J<|Zj2 (q:=39) J (λ hq39=> ?_)<|λ hq39=> ?_
  .
   refine Zk0 hq39<|Zk0 hq39<|Zk0 hq39<|Zc<|Zs1 J hq39 J<|ca J<|Zc (Zj fa42_3 J ?_)<|Zy1 J;refine Zc (Zu 0 ty32 J J J ?_)<|Zy1 J;refine Zc (Zd2 (n:=i.args.length) underlying32 J (by simp)<|λ hl47=> ?_)<|Zy1 J;refine Zc (Zj1 J J J ?_)<|Zy1 J;refine Zc<|Zs1 J J J<|cb J<|Zn1 J (λ h35=> ?_)<|λ h35=> ?_
   .
    first | rw [if_pos (show A0 i=true from h35)] at hr | skip
    refine Zi1<|Zi ?_;exact ⟨⟨rfl,(congrArg (λ b=>some (V.bool b)) (Bool.eq_iff_iff.2 (by first | (simp_all [A0];done) | (simp_all [A0];omega)))),trivial⟩,(Dk (Zt2 _))⟩
   first | rw [if_neg (by rw [show A0 i=false from h35];exact Bool.false_ne_true)] at hr | skip
   refine Zd<|cf fa42_1 J<|cg 0 ty3 J J J<|ce J J J<|ca J<|Zj2 (q:=53) J (λ hq53=> ?_)<|λ hq53=> ?_
   .
    refine Zk0 hq53<|Zk0 hq53<|Zk0 hq53<|Zc<|Zs1 J hq53 J<|ca J<|Zc (Zj fa42_3 J ?_)<|Zy1 J;refine Zc (Zu 0 ty32 J J J ?_)<|Zy1 J;refine Zc (Zd2 (n:=i.args.length) underlying32 J (by simp)<|λ hl61=> ?_)<|Zy1 J;refine Zc (Zj1 J J J ?_)<|Zy1 J;refine Zc<|Zs1 J J J<|ci J<|Za<|Zi ?_;exact ⟨⟨rfl,(congrArg (λ b=>some (V.bool b)) (Bool.eq_iff_iff.2 (by first | (simp_all [A0];done) | (simp_all [A0];omega)))),trivial⟩,(Dk (Zt2 _))⟩
   refine Zc (Zj fa42_1 J ?_)<|Zy0 hq53;refine Zc (Zu 0 ty3 J J J ?_)<|Zy0 hq53;refine Zc (Zj1 J J J ?_)<|Zy0 hq53;refine Zc<|Zt1 J hq53 J<|ca J<|Zj2 (q:=58) J (λ hq58=> ?_)<|λ hq58=> ?_
   .
    refine Zc (Zj fa42_3 J ?_)<|Zy1 hq58;refine Zc (Zu 0 ty32 J J J ?_)<|Zy1 hq58;refine Zc (Zd2 (n:=i.args.length) underlying32 J (by simp)<|λ hl61=> ?_)<|Zy1 hq58;refine Zc (Zj1 J J J ?_)<|Zy1 hq58;refine Zc<|Zs1 J hq58 J<|ci J<|Za<|Zi ?_;exact ⟨⟨rfl,(congrArg (λ b=>some (V.bool b)) (Bool.eq_iff_iff.2 (by first | (simp_all [A0];done) | (simp_all [A0];omega)))),trivial⟩,(Dk (Zt2 _))⟩
   refine Zk1 hq58<|Zk1 hq58<|Zk1 hq58<|Zk1 hq58<|Zc<|Zt1 J hq58 J<|ci J<|Za<|Zi ?_;exact ⟨⟨rfl,(congrArg (λ b=>some (V.bool b)) (Bool.eq_iff_iff.2 (by first | (simp_all [A0];done) | (simp_all [A0];omega)))),trivial⟩,(Dk (Zt2 _))⟩
  refine Zc (Zj fa42_1 J ?_)<|Zy0 hq39;refine Zc (Zu 0 ty3 J J J ?_)<|Zy0 hq39;refine Zc (Zj1 J J J ?_)<|Zy0 hq39;refine Zc<|Zt1 J hq39 J<|ca J<|Zj2 (q:=44) J (λ hq44=> ?_)<|λ hq44=> ?_
  .
   refine Zc (Zj fa42_3 J ?_)<|Zy1 hq44;refine Zc (Zu 0 ty32 J J J ?_)<|Zy1 hq44;refine Zc (Zd2 (n:=i.args.length) underlying32 J (by simp)<|λ hl47=> ?_)<|Zy1 hq44;refine Zc (Zj1 J J J ?_)<|Zy1 hq44;refine Zc<|Zs1 J hq44 J<|cb J<|Zn1 J (λ h35=> ?_)<|λ h35=> ?_
   .
    first | rw [if_pos (show A0 i=true from h35)] at hr | skip
    refine Zi1<|Zi ?_;exact ⟨⟨rfl,(congrArg (λ b=>some (V.bool b)) (Bool.eq_iff_iff.2 (by first | (simp_all [A0];done) | (simp_all [A0];omega)))),trivial⟩,(Dk (Zt2 _))⟩
   first | rw [if_neg (by rw [show A0 i=false from h35];exact Bool.false_ne_true)] at hr | skip
   refine Zd<|cf fa42_1 J<|cg 0 ty3 J J J<|ce J J J<|ca J<|Zj2 (q:=53) J (λ hq53=> ?_)<|λ hq53=> ?_
   .
    refine Zk0 hq53<|Zk0 hq53<|Zk0 hq53<|Zc<|Zs1 J hq53 J<|ca J<|Zc (Zj fa42_3 J ?_)<|Zy1 J;refine Zc (Zu 0 ty32 J J J ?_)<|Zy1 J;refine Zc (Zd2 (n:=i.args.length) underlying32 J (by simp)<|λ hl61=> ?_)<|Zy1 J;refine Zc (Zj1 J J J ?_)<|Zy1 J;refine Zc<|Zs1 J J J<|ci J<|Za<|Zi ?_;exact ⟨⟨rfl,(congrArg (λ b=>some (V.bool b)) (Bool.eq_iff_iff.2 (by first | (simp_all [A0];done) | (simp_all [A0];omega)))),trivial⟩,(Dk (Zt2 _))⟩
   refine Zc (Zj fa42_1 J ?_)<|Zy0 hq53;refine Zc (Zu 0 ty3 J J J ?_)<|Zy0 hq53;refine Zc (Zj1 J J J ?_)<|Zy0 hq53;refine Zc<|Zt1 J hq53 J<|ca J<|Zj2 (q:=58) J (λ hq58=> ?_)<|λ hq58=> ?_
   .
    refine Zc (Zj fa42_3 J ?_)<|Zy1 hq58;refine Zc (Zu 0 ty32 J J J ?_)<|Zy1 hq58;refine Zc (Zd2 (n:=i.args.length) underlying32 J (by simp)<|λ hl61=> ?_)<|Zy1 hq58;refine Zc (Zj1 J J J ?_)<|Zy1 hq58;refine Zc<|Zs1 J hq58 J<|ci J<|Za<|Zi ?_;exact ⟨⟨rfl,(congrArg (λ b=>some (V.bool b)) (Bool.eq_iff_iff.2 (by first | (simp_all [A0];done) | (simp_all [A0];omega)))),trivial⟩,(Dk (Zt2 _))⟩
   refine Zk1 hq58<|Zk1 hq58<|Zk1 hq58<|Zk1 hq58<|Zc<|Zt1 J hq58 J<|ci J<|Za<|Zi ?_;exact ⟨⟨rfl,(congrArg (λ b=>some (V.bool b)) (Bool.eq_iff_iff.2 (by first | (simp_all [A0];done) | (simp_all [A0];omega)))),trivial⟩,(Dk (Zt2 _))⟩
  refine Zk1 hq44<|Zk1 hq44<|Zk1 hq44<|Zk1 hq44<|Zc<|Zt1 J hq44 J<|cb J<|Zq1 J J<|Zd<|cf fa42_1 J<|cg 0 ty3 J J J<|ce J J J<|ca J<|Zj2 (q:=53) J (λ hq53=> ?_)<|λ hq53=> ?_
  .
   refine Zk0 hq53<|Zk0 hq53<|Zk0 hq53<|Zc<|Zs1 J hq53 J<|ca J<|Zc (Zj fa42_3 J ?_)<|Zy1 J;refine Zc (Zu 0 ty32 J J J ?_)<|Zy1 J;refine Zc (Zd2 (n:=i.args.length) underlying32 J (by simp)<|λ hl61=> ?_)<|Zy1 J;refine Zc (Zj1 J J J ?_)<|Zy1 J;refine Zc<|Zs1 J J J<|ci J<|Za<|Zi ?_;exact ⟨⟨rfl,(congrArg (λ b=>some (V.bool b)) (Bool.eq_iff_iff.2 (by first | (simp_all [A0];done) | (simp_all [A0];omega)))),trivial⟩,(Dk (Zt2 _))⟩
  refine Zc (Zj fa42_1 J ?_)<|Zy0 hq53;refine Zc (Zu 0 ty3 J J J ?_)<|Zy0 hq53;refine Zc (Zj1 J J J ?_)<|Zy0 hq53;refine Zc<|Zt1 J hq53 J<|ca J<|Zj2 (q:=58) J (λ hq58=> ?_)<|λ hq58=> ?_
  .
   refine Zc (Zj fa42_3 J ?_)<|Zy1 hq58;refine Zc (Zu 0 ty32 J J J ?_)<|Zy1 hq58;refine Zc (Zd2 (n:=i.args.length) underlying32 J (by simp)<|λ hl61=> ?_)<|Zy1 hq58;refine Zc (Zj1 J J J ?_)<|Zy1 hq58;refine Zc<|Zs1 J hq58 J<|ci J<|Za<|Zi ?_;exact ⟨⟨rfl,(congrArg (λ b=>some (V.bool b)) (Bool.eq_iff_iff.2 (by first | (simp_all [A0];done) | (simp_all [A0];omega)))),trivial⟩,(Dk (Zt2 _))⟩
  refine Zk1 hq58<|Zk1 hq58<|Zk1 hq58<|Zk1 hq58<|Zc<|Zt1 J hq58 J<|ci J<|Za<|Zi ?_;exact ⟨⟨rfl,(congrArg (λ b=>some (V.bool b)) (Bool.eq_iff_iff.2 (by first | (simp_all [A0];done) | (simp_all [A0];omega)))),trivial⟩,(Dk (Zt2 _))⟩
 refine Zr1 J (λ h35=> ?_)<|λ h35=> ?_
 .
  first | rw [if_pos (show A0 i=true from h35)] at hr | skip
  refine cd<|cb J<|Zf1<|Za1<|Zd1<|Zg1 J (.tmp J) ?_;rw [hr]
 first | rw [if_neg (by rw [show A0 i=false from h35];exact Bool.false_ne_true)] at hr | skip
 refine cd<|Zc<|Zv 0 ty42 J J J<|Zc<|Zx1 [.tmp 65] J J en99 (AbZ i)<|Zc<|Zl2 J<|cb J<|Zo1 J (λ h64=> ?_)<|λ h64=> ?_
 .
  rw [h64,if_neg Bool.false_ne_true] at hr;refine cd<|cb J<|Zf1<|Za1<|Zd1<|Zg1 J (.tmp J) ?_;rw [hr]
 rw [if_pos h64] at hr;refine Zi1<|Zb1<|Zi<|cd<|cb J<|Zf1<|Zg1 J (.tmp J) ?_;rw [hr]
end Go.Proofs.YthlflmmnankhhaaGreat.X1
