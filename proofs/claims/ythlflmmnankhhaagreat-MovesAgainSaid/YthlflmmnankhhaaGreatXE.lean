import Derived.Test.YthlflmmnankhhaaGreatDZ
import Derived.Test.YthlflmmnankhhaaGreatXD
set_option maxRecDepth 100000
set_option maxHeartbeats 8000000
open Go.VL.Drops renaming keep → Dk
set_option linter.all false
open List renaming append_nil → Ya, replicate → Yb, mem_of_getElem? → Yc, length_append → Yd, length_map → Ye, map_set → Yf, flatMap_cons → Yg, length_set → Yh, append_assoc → Yi, perm_append_comm → Yj, getElem?_eq_none → Yk, mem_singleton → Yl, getElem?_append_right → Ym, take_append_of_le_length → Yn
open Nat renaming le_refl → Yo, mul_one → Yp
section
namespace Go.Proofs.YthlflmmnankhhaaGreat.X12
open Go.VL Go.SM Go.Proofs.YthlflmmnankhhaaGreat X1 X2 X3 X4 X5 X6 X7 X8 X9 X10 VT Tryz
theorem Xi (P:List (List Int)):P.map Ad=(P.map Ad).flatMap V.leaves++ []:=by
 rw [Ya]
 induction P with
 | nil=>rfl
 | cons a P ih=>rw [List.map_cons,Yg, <- ih];rfl
theorem Xj (P:List (List Int)):∀x∈P.map Ad,x.fits 1=true/\((∃ls,x= .agg ls)\/x.leaf=true):=λx hx=>by
 obtain⟨l,_,rfl⟩:=List.mem_map.1 hx;exact ⟨rfl, .inr rfl⟩
theorem AaH {P:List (List Int)}{t:Nat}{l:List Int}(h:P[t]? =some l)(k:Nat)(e:Am)(ht:e.block.toNat=t):FT k P e=P.set t (l++ [(k:Int)]):=by
 rw [FT,ht,h];rfl
theorem Xk {P:List (List Int)}{l:List Int}(h:l∈P):l.length<=Gq P:=by
 induction P with
 | nil=>cases h
 | cons a P ih=>
  rcases List.mem_cons.1 h with rfl | h
  .simp [Gq]
  .have:=ih h;simp [Gq] at this ⊢;omega
theorem VD (f:Ai):AP prog 34 [Bs f] (.tup [J1 (if Bu f=0 then CV f.qa else []), .int (Bu f)]):=by
 refine Al (nt:=50) func34 J J J ?_;refine cd<|Zc<|Zc2 J J<|λ g1=>(ci J<|cb J<|Zb<|cd<|Zc<|Zv 0 ty31 J J J<|Zc<|Zx1 [.tmp 10] J J en25 (GZ f)<|cb J<|cd<|ca J<|cj J J J<|Zm1 J (λ h13=> ?_)<|λ h13=> ?_)
 .
  refine cd<|ca J<|Zc<|Zu2 (Zk J ⟨J,J⟩) ((V.le.nil 1:V.le _ (J1 [])))<|cb J<|Zf1<|Zd1<|Zh1 J J (.cons (.tmp J)<|.cons (.tmp J)<|.nil) ?_;rw [if_neg h13];rfl
 have hok:=Bf h13;have hpos:=hok.pos;have hE:=hok.edges;have h128:=hok.len;refine co<|cd<|cf fa31_1 J<|cg 0 ty29 J J J<|Zc<|Zd2 (n:=f.qa.length) underlying29 J (by simp)<|λ hl17=>(Zc<|Dg (.raw<|.slice none 0 0) (λ m=>J) J sl69 J J (by omega) (by omega)<|λ g18=>(cb J<|BE 0 (ls':=HW (Yb f.qa.length .nil) (Yb f.qa.length [])) J (by rw [ZE];exact Mr _)<|Mq 3 1 f.qa.length ?_));rw [<- Ox 3 f.qa.length];refine Zb<|cd<|Zc<|Zj fa31_1 rfl<|Zc<|Zu 1 ty29 rfl rfl rfl<|Zc<|Zd2 (n:=f.qa.length) underlying29 rfl (by simp)<|λ hl21=>(Zc<|Zl rfl<|cn<|Zs<|Zi2 (ι:=Nat×List Tok×List (List Int)) (λ (k,toks,P)=>f.qa.length - k) (λ (k,toks,P)=> [(1,some (.ptr g1 0)),(5,some (.raw (.slice (some ⟨g18,0,none⟩) f.qa.length f.qa.length))),(20,some (Ae f.qa)),(21,some (.int f.qa.length)),(22,some (.int k))]) (λ (k,toks,P)=> .cells g18 32 (HW toks P):: .cells g1 31 [.int f.name,Ae f.qa]::JK 3 toks P) (λ (k,toks,P)=>k<=f.qa.length/\Hk k (f.qa.drop k) P=CV f.qa/\toks.length=P.length/\P.length=f.qa.length/\Gq P=Ck (f.qa.take k)) (0,Yb f.qa.length .nil,Yb f.qa.length []) ⟨Nat.zero_le _,rfl,by simp,by simp,Uh _⟩ cp (Dk<|Dk<|Zt2 _) ?_);rintro ⟨k,toks,P⟩ hA;change k<=f.qa.length/\Hk k (f.qa.drop k) P=CV f.qa/\toks.length=P.length/\P.length=f.qa.length/\Gq P=Ck (f.qa.take k) at hA;obtain ⟨hk,hq,htk,hPl,htot⟩:=hA;refine cd<|cj J J J<|Zb<|Zn1 J (λ h23=> ?_)<|λ h23=> ?_
 .
  obtain⟨b,hb⟩:=Ab f.qa k h23;have hbm:=Yc hb;have hEb:=hE b hbm;refine co<|Zb<|Zs<|cd<|Zc<|Zl rfl<|Zc<|Zz (el:=An b) sl29 rfl rfl (by omega) (Aq _ hb)<|λ a25=>(Zc<|Za2 ty40 rfl rfl<|Zc<|Zb2 zr40 _ rfl rfl<|λ g7=>(Zc<|Zk rfl<|Zc<|Zx 0 ty40 rfl rfl rfl rfl rfl<|cn<|cd<|Zc<|Zj fa40_2 rfl<|Zc<|Zj fa38_4 rfl<|Zc<|Zu 0 ty36 rfl rfl rfl<|Zc<|Zd2 (n:=b.qb.to.length) underlying36 rfl (by simp)<|λ hl30=>(Zc<|Zl rfl<|cn<|Zs<|Zi2 (ι:=Nat×List Tok×List (List Int)) (λ (j,toks1,Q)=>b.qb.to.length - j) (λ (j,toks1,Q)=> [(1,some (.ptr g1 0)),(5,some (.raw (.slice (some ⟨g18,0,none⟩) f.qa.length f.qa.length))),(6,some (.int k)),(20,some (Ae f.qa)),(21,some (.int f.qa.length)),(22,some (.int k)),(29,some (AC b.qb.to)),(30,some (.int b.qb.to.length)),(31,some (.int j))]) (λ (j,toks1,Q)=> .cells g18 32 (HW toks1 Q):: .cells g1 31 [.int f.name,Ae f.qa]::JK 3 toks1 Q) (λ (j,toks1,Q)=>j<=b.qb.to.length/\(b.qb.to.drop j).foldl (FT k) Q=HT k P b/\toks1.length=Q.length/\Q.length=f.qa.length/\Gq Q=Ck (f.qa.take k)+j) (0,toks,P) ⟨Nat.zero_le _,rfl,htk,hPl,htot⟩ ct (Drops.drop<|Dk<|Dk<|Zt2 _) ?_)));rintro ⟨j,toks1,Q⟩ hA2;change j<=b.qb.to.length/\(b.qb.to.drop j).foldl (FT k) Q=HT k P b/\toks1.length=Q.length/\Q.length=f.qa.length/\Gq Q=Ck (f.qa.take k)+j at hA2;obtain ⟨hj,hq1,htk1,hQl,htotQ⟩:=hA2;refine cd<|cj J J J<|Zb<|Zn1 J (λ h32=> ?_)<|λ h32=> ?_
  .
   obtain⟨e,he⟩:=Ab b.qb.to j h32;obtain ⟨he1,he2⟩:=hEb e (Yc he);obtain ⟨l,hl⟩:=Ab Q e.block.toNat (by omega);obtain ⟨t,ht⟩:=Ab toks1 e.block.toNat (by omega);have hpe:=AaH hl k e rfl;have hlt:=Xk (Yc hl);have hsm:=RL hok;have hte:=Et hok hbm;have htk2:=Lx hb;have hle3:=Jf f.qa (k+1);refine co<|Zb<|Zs<|cd<|Zc<|Zz (el:=AA e) sl36 J J (by omega) (Aq _ he)<|λ a33=>(Zc<|Za2 ty64 J J<|Zc<|Zb2 zr64 _ J J<|λ g9=>(Zc<|Zx 0 ty64 J J J J J<|cn<|A5 ((((Jm 3 ht hl).cons _).cons _).cons _)<|Ap (G:=Tok) [([],[5],[]),([],[9],[]),([1],[36],[]),([],[5],[]),([],[9],[]),([4],[39],[]),([5,4,3],[38,40],[]),([6,5,4,3],[41],[]),([],[6],[]),([8],[43],[]),([9,8,7,6,5,4,3],[42,44],[0]),(dn 11,[35,37],[]),(dn 12,[46,45],[])] [10,12] (C9 _ (λ x=>(.cells g9 64 [.int e.block,Ad e.args]:: .cells g18 32 (HW toks1 Q):: .cells g1 31 [.int f.name,Ae f.qa]:: .buf x 3 1 (l.map V.int++ [V.int k]).length::JK 3 (toks1.eraseIdx e.block.toNat) (Q.eraseIdx e.block.toNat)))<|λ x _=>(.cells g9 64 [.int e.block,Ad e.args]:: .cells g18 32 ((HW toks1 Q).set e.block.toNat (.sl 1 (some x) (l.map V.int++ [V.int k]))++ []):: .cells g1 31 [.int f.name,Ae f.qa]:: .buf x 3 1 (l.map V.int++ [V.int k]).length::JK 3 (toks1.eraseIdx e.block.toNat) (Q.eraseIdx e.block.toNat))) [] [35,36,37,38,39,40,41,42,43,44,45,46] J VT.mix<|Zp (Zm _) (Zm2 J<|λ _=>(λ γ=>Zf<|λ _ h5=>Ze<|Zn J<|Zl h5 z0))<|Zp (Zm _) (Zm2 J<|λ _=>(λ γ=>Zf<|λ _ h9=>Ze<|Zn J<|Zj fa64_0 h9 z0))<|Zp (Zm _) (Zo J J ⟨(λ γ=>Zw 1 0 J (λ _ h36=>Ze (Zn J (Zu 0 ty3 h36 J J z0)))),(λ γ=>Zw 1 0 J (λ _ h36=>Ze (Zn J (Zu 0 ty3 h36 J J z0)))),trivial⟩)<|Zp (Zm _) (Zo J J ⟨(λ γ=>Zf (λ _ h5=>Ze (Zn J (Zl h5 z0)))),trivial⟩)<|Zp (Zm _) (Zo J J ⟨(λ γ=>Zf (λ _ h9=>Ze (Zn J (Zj fa64_0 h9 z0)))),trivial⟩)<|Zp (Zm _) (Zo J J ⟨(λ γ=>Zw 4 0 J (λ _ h39=>Ze (Zn J (Zu 0 ty3 h39 J J z0)))),trivial⟩)<|Zp (Zm _) (Zo J J ⟨(λ γ=>Zw 3 2 J (λ _ h38=>Zw 5 0 J (λ _ h40=>Ze (Zn J (Zr2 sl69 h38 h40 (by omega) (by omega) z0))))),trivial⟩)<|Zp (Zm _) (Zo J J ⟨(λ γ=>Zw 6 0 J (λ _ h41=>Ze (Zn J (Zf3 1 e.block.toNat ty32 h41 (by simp) J (Ya _).symm (ZF ht hl) z0)))),trivial⟩)<|Zp (Zm _) (Zo J J ⟨(λ γ=>Zf (λ _ h6=>Ze (Zn J (Zl h6 z0)))),trivial⟩)<|Zp (Zm _) (Zo J J ⟨(λ γ=>Zw 8 0 J (λ _ h43=>Ze (Zn J (Zk3 [.tmp 43] sl32 J J J (Zp2 h43 Zq2) J z0)))),trivial⟩)<|Zp (Zw2<|λ x=> .sl 1 (some x) (l.map V.int++ [V.int k])) (Zo2 0 J<|λ γ=>Zw 7 2 J<|λ _ h42=>Zw 9 0 J<|λ _ h44=>Ze<|Zn J<|Zi3 3 _ sl32 h42 h44 J (by simp) (by simp;omega)<|λ t45=>⟨t45,⟨t45,J,J⟩,J⟩)<|Zp (Zm _) (Zo J J ⟨(λ γ=>Zw 0 10 J (λ _ h35=>Zw 2 8 J (λ _ h37=>Ze (Zn J (Zr2 sl69 h35 h37 (by omega) (by omega) z0))))),trivial⟩)<|Zp Za3 (Zo2 1 J<|λ γ=>Zw 11 0 J<|λ _ h46=>Zw 10 1 J<|λ _ h45=>Ze<|Zx2 h45<|λ e45=>Zn J<|Zh3 1 e.block.toNat ty32 h46 (by simp) e45 J J (Ya _).symm (by rw [ZG htk1];omega) ⟨default,trivial,J⟩)<|Ak<|λ γ=>Ze<|Zb1<|Zi ?_))
   let tk:Tok:=γ 0
   refine CS (Drops.drop<|Drops.keepE (congrArg (Own.cells g18 32)<|Wy toks1 Q e.block.toNat tk l k)<|Dk<|(Drops.keepE (by simp;rfl)<|Zt2 _).trans<|Drops.of_perm<|Wz (t':=tk) (l':=l++ [(k:Int)]) 3 ht hl) ?_;rw [<- hpe];refine Zd<|cm J J<|ca J<|Za<|Zi ?_;exact ⟨(j+1,toks1.set e.block.toNat tk,FT k Q e),(by (try simp only []);omega),⟨by omega,by rw [<- hq1,Ag he,List.foldl_cons],by rw [Yh,Hl];exact htk1,by rw [Hl];exact hQl,by rw [hpe,Ug hl];omega⟩,ct,(Dk (Dk (Zt2 _)))⟩
  have hje:j=b.qb.to.length:=by omega
  subst hje;rw [List.drop_length,List.foldl_nil] at hq1;subst hq1;have htot1:Gq (HT k P b)=Ck (f.qa.take (k+1)):=by rw [htotQ,Lx hb]
  refine Zt<|Ze1<|Ze1<|Zc1<|Zb1<|Zi<|Zd<|cm J J<|ca J<|Za<|Zi ?_;exact ⟨(k+1,toks1,HT k P b),(by (try simp only []);omega),⟨by omega,by rw [<- hq,Ag hb,Hk],htk1,by rw [HT,Hm,hPl],htot1⟩,cp,(Dk (Dk (Zt2 _)))⟩
 have hke:k=f.qa.length:=by omega
 subst hke;rw [List.drop_length,Hk] at hq;refine Zt<|Ze1<|Ze1<|Zc1<|Zi<|BE 0 (ls':=P.map Ad) J (Q6 toks P htk)<|D3 0 (q:=5) (rest:= []) (P.map Ad) J J (Xi P) (by simp [hPl]) (Yo _) (by simp only [maxLen];omega) (Xj P)<|cd<|ca J<|ci J<|cb J<|Zf1<|Zh1 J J (.cons (.tmp J)<|.cons (.tmp J)<|.nil) ?_;rw [if_pos h13,h13, <- hq];first | done | rfl
end Go.Proofs.YthlflmmnankhhaaGreat.X12
end
section
namespace Go.Proofs.YthlflmmnankhhaaGreat.X13
open Go.VL Go.SM Go.Proofs.YthlflmmnankhhaaGreat X1 X2 X3 X4 X5 X6 X7 X8 X9 X10 X12 VT Tryz
def Xl (st:List (Nat×Nat)):List V:=st.reverse.flatMap λp=> [V.int p.1,V.int p.2]
def HF (st:List (Nat×Nat))(rest:List V):List V:=Xl st++rest
theorem OT (b e:Nat)(tl:List (Nat×Nat)):Xl ((b,e)::tl)=Xl tl++ [V.int b,V.int e]:=by simp [Xl]
theorem DX:∀st:List (Nat×Nat),(Xl st).length=st.length*2
 | []=>rfl
 | (b,e)::st=>by simp only [OT,Yd,DX st,List.length_cons,List.length_nil];omega
theorem Uf (n:Nat):(Yb n (V.raw (.bool false))).flatMap V.leaves=Yb n (V.bool false):=by
 induction n with
 | zero=>rfl
 | succ n ih=>rw [List.replicate_succ,Yg,ih];rfl
theorem E7 (b e:Nat)(tl:List (Nat×Nat))(rest:List V):HF ((b,e)::tl) rest=Xl tl++([V.int b,V.int e]++rest):=by rw [HF,OT,Yi]
theorem RI (b e:Nat)(tl:List (Nat×Nat))(rest:List V):(HF ((b,e)::tl) rest)[tl.length*2]? =some (V.int b):=by
 rw [E7,Ym (by rw [DX];exact Yo _),DX,Nat.sub_self];rfl
theorem MU (b e:Nat)(tl:List (Nat×Nat))(rest:List V):(HF ((b,e)::tl) rest)[tl.length*2+1]? =some (V.int e):=by
 rw [E7,Ym (by rw [DX];omega),DX,show tl.length*2+1 - tl.length*2=1 by omega];rfl
theorem Ac8 (b e:Nat)(tl:List (Nat×Nat))(rest:List V):Nat.ble (tl.length*2+1+1) (HF ((b,e)::tl) rest).length=true:=Nat.ble_eq_true_of_le (by rw [E7,Yd,DX];simp;omega)
theorem Ac9 (b e:Nat)(tl:List (Nat×Nat))(rest:List V):(HF ((b,e)::tl) rest).set (tl.length*2+1) (V.int ((e:Int)+1))=HF ((b,e+1)::tl) rest:=by
 rw [E7,E7,List.set_append_right _ _ (by rw [DX];omega),DX,show tl.length*2+1 - tl.length*2=1 by omega];rfl
theorem Ma (b e:Nat)(tl:List (Nat×Nat))(rest:List V):HF ((b,e)::tl) rest=HF tl ([V.int b,V.int e]++rest):=by rw [E7,HF]
theorem AaI (n:Int)(k:Nat)(hk:n=k)(st:List (Nat×Nat))(rest rest':List V):(HF st rest).take (st.length*2)++([V.int n,V.int 0]++rest')=HF ((k,0)::st) rest':=by
 subst hk;rw [E7,HF,Yn (by rw [DX];exact Yo _),List.take_of_length_le (by rw [DX];exact Yo _)];rfl
theorem RJ (st:List (Nat×Nat))(rest:List V):(HF st rest).length=st.length*2+rest.length:=by rw [HF,Yd,DX]
theorem KZ (l:List Bool)(k:Nat)(b:Bool):(l.map V.bool).set k (V.bool b)++ []=(l.set k b).map V.bool:=by rw [Ya,Yf]
theorem AaJ {l:List Bool}{k:Nat}{b:Bool}(h:l[k]? =some b):(l.map V.bool)[k]? =some (V.bool b):=by simp [h]
theorem AaK {m o r:Own}{O:Af}:(m::o::r::O).Perm (O++ [m,o,r]):=Yj (l₁:= [m,o,r])
theorem AaL {m o r:Own}{O:Af}:Drops (O++ [m,o,r]) (m::o::r::O):=Drops.of_perm (Yj (l₂:= [m,o,r]))
def J0 (l:List Nat):List V:=(l.map λ(k:Nat)=>(k:Int)).map V.int
theorem OU (l:List Nat):(J0 l).length=l.length:=by simp [J0]
theorem OV (l:List Nat)(k:Nat):J0 (l++ [k])=J0 l++ [V.int k]:=by simp [J0]
def K0 (g:Nat):Option (Nat×Nat×List V)->List Nat->Af
 | none,l=> [.cells g 32 [.raw (.slice none 0 0)]]
 | some (gs,cap,rest),l=> [.cells g 32 [.raw (.slice (some ⟨gs,0,none⟩) l.length cap)], .cells gs 3 (J0 l++rest)]
def Lw:Option (Nat×Nat×List V)->List Nat->Prop
 | none,l=>l= []
 | some (gs,cap,rest),l=>(J0 l++rest).length=cap/\l.length<=cap/\cap<=maxLen
theorem MV {x:Option (Nat×Nat×List V)}{l:List Nat}(h:Lw x l)(hl:l≠ []):∃y,x=some y:=by
 cases x with
 | none=>exact absurd h hl
 | some y=>exact⟨y,rfl⟩
theorem ML {l c:List Int}{i:Nat}{x y:Int}(hc:c.length=l.length)(hget:∀t,t<l.length->c[t]? =if t<i\/l.length - i<=t then l[l.length - 1 - t]? else l[t]?)(hi:i<l.length - 1 - i)(hx:c[i]? =some x)(hy:c[l.length - 1 - i]? =some y):
  ∀t,t<l.length->((c.set i y).set (l.length - 1 - i) x)[t]? =if t<i+1\/l.length - (i+1)<=t then l[l.length - 1 - t]? else l[t]? :=λt ht=>by
 rw [hget i (by omega),if_neg (by omega)] at hx;rw [hget _ (by omega),if_neg (by omega)] at hy;rw [List.getElem?_set];split
 .rename_i e;subst e;rw [if_pos (by rw [Yh,hc];omega),if_pos (by omega), <- hx]
  congr 1
  omega
 .rw [List.getElem?_set];split
  .rename_i e;subst e;rw [if_pos (by omega),if_pos (by omega), <- hy]
  .rw [hget t ht]
   by_cases h:t<i\/l.length - i<=t
   .rw [if_pos h,if_pos (by omega)]
   .rw [if_neg h,if_neg (by omega)]
theorem AaM {l c:List Int}{i:Nat}(hc:c.length=l.length)(hget:∀t,t<l.length->c[t]? =if t<i\/l.length - i<=t then l[l.length - 1 - t]? else l[t]?)(hi:l.length - 1 - i<=i):c=l.reverse:=by
 apply List.ext_getElem?;intro t
 by_cases ht:t<l.length
 .rw [hget t ht,List.getElem?_reverse ht];split
  .rfl
  .congr 1
   omega
 .rw [Yk (by omega),Yk (by rw [List.length_reverse];omega)]
theorem OW (l:List Int):(l.map V.int).flatMap V.leaves=l.map V.int:=by
 induction l with
 | nil=>rfl
 | cons a l ih=>rw [List.map_cons,Yg,ih];rfl
theorem OX (l:List Int):∀x∈l.map V.int,x.fits 1=true/\((∃ls,x= .agg ls)\/x.leaf=true):=λx hx=>by
 obtain⟨n,_,rfl⟩:=List.mem_map.1 hx;exact ⟨rfl, .inr rfl⟩
theorem MW (g:Nat)(k:Nat):AH prog 39 [.int k, .ptr g 0] (K0 g none []) λr S'=>∃x,S'=K0 g (some x) [k]/\Lw (some x) [k]:=by
 refine AB<|Al (nt:=7) func39 J J J ?_;refine Zd<|cg 0 ty32 J J J<|ca J<|Zc<|Zk3 [.tmp 4] sl32 J J J J J<|Zc<|Hv sl32 (by decide) J J (by simp) (by simp) (by intro y hy;rw [Yl.1 hy];rfl)<|λ g6 cap6 rest6 hc6 hm6 hl6=>(Zc<|Zy 1 ty32 J J J J J<|Za<|Zn3 J<|⟨_,(Drops.pick 1 J J (Drops.pick 0 J J (Drops.nil _))),(g6,cap6,rest6),J,?_,hc6,hm6⟩);exact hl6.trans (Yp _)
theorem AaN (g gs cap:Nat)(rest:List V)(l:List Nat)(k:Nat)(hl:l.length<=1000000)(hok:Lw (some (gs,cap,rest)) l):AH prog 39 [.int k, .ptr g 0] (K0 g (some (gs,cap,rest)) l) λr S'=>∃x,S'=K0 g (some x) (l++ [k])/\Lw (some x) (l++ [k]):=by
 refine AB ?_;obtain ⟨hll,hlc,hcm⟩:=hok;have htk:(J0 l++rest).take (l.length*1)=J0 l:=by rw [Yp,Yn (by rw [OU];exact Yo _),List.take_of_length_le (by rw [OU];exact Yo _)]
 refine Al (nt:=7) func39 J J J ?_;refine Zd<|cg 0 ty32 J J J<|ca J<|Zc<|Zk3 [.tmp 4] sl32 J J J J J<|Zc<|GN 1 sl32 (by decide) J J J (by rw [hll,Yp]) hlc hcm (by simp;omega) (by intro y hy;rw [Yl.1 hy];rfl)<|λ g6 cap6 rest6 hc6 hm6 hl6=>(Zc<|Zy 0 ty32 J J J J J<|Za<|Zn3 J ?_);rw [htk] at hl6;refine ⟨_,(Dk (Dk (Zt2 _))),(g6,cap6,rest6),?_,?_,?_,hm6⟩
 . rw [htk,K0,OV,Yi,Yd];rfl
 . rw [OV,Yi];exact hl6.trans (Yp _)
 rw [Yd];exact hc6
theorem HG (g:Nat)(x:Option (Nat×Nat×List V))(l:List Nat)(k:Nat)(h:Lw x l)(hl:l.length<=128):AH prog 39 [.int k, .ptr g 0] (K0 g x l) λr S'=>∃x,S'=K0 g x (l++ [k])/\Lw x (l++ [k]):=by
 cases x with
 | none=>
  have h:l= []:=h;subst h;exact (MW g k).mono λr S' ⟨x,h1,h2⟩=>⟨some x,h1,h2⟩
 | some x=>exact(AaN g x.1 x.2.1 x.2.2 l k (Nat.le_trans hl (by omega)) h).mono λr S' ⟨x,h1,h2⟩=>⟨some x,h1,h2⟩
theorem RK (name:Int)(bs:List Aa)(h0:0<bs.length)(h128:bs.length<=128)(hE:∀b∈bs,∀e∈b.qb.to,1<=e.block/\e.block<bs.length){c:FuncId}{caps:List V}(hen:Enters prog c){ι:Type}(O:ι->List Nat->Af)(Ok:ι->List Nat->Prop)(tok0:ι)(hok0:Ok tok0 [])(hc:∀tok l k,Ok tok l->l.length<=128->AH prog c (.int (k:Nat)::caps) (O tok l) λr S'=>∃tok',S'=O tok' (l++ [k])/\Ok tok' (l++ [k])):AH prog 38 [.agg [.int name,Ae bs], .clo (.func c) caps] (O tok0 []) λr S'=>∃tok',S'=O tok' (Gs bs)/\Ok tok' (Gs bs):=by
 refine AB<|Al (nt:=81) func38 J J J ?_;refine cd<|Zc<|Zc2 J J<|λ g2=>(cn<|cd<|cf fa31_1 J<|cg 0 ty29 J J J<|Zc<|Zd2 (n:=bs.length) underlying29 J (by simp)<|λ hl11=>(Zc<|Dg (.raw<|.bool false) (λ m=>J) J sl103 J J (by omega) (by omega)<|λ g12=>(ci J<|Za<|Zi ?_)));rw [Uf,Int.toNat_natCast];refine cd<|Zc<|Zl rfl<|Zc<|Zr2 sl103 rfl rfl (by omega) (by omega)<|Zc<|Zh3 0 0 ty4 rfl (by simp) rfl rfl rfl (Ya _).symm (by simp;omega)<|cn<|cd<|Zc<|Zf2 [] [] st111 rfl rfl rfl rfl<|Zc<|Mz [.tmp 15] sl112 rfl rfl rfl rfl rfl<|λ g16=>(Zc<|Zk rfl<|cn<|Zs<|Zi2 (ι:=Nat×Eu×Nat×Nat×List V×ι) (λ (m,s,gs,cap,rest,tok)=>m) (λ (m,s,gs,cap,rest,tok)=> [(1,some (.clo (.func c) caps)),(2,some (.ptr g2 0)),(4,some (.raw (.slice (some ⟨g12,0,none⟩) bs.length bs.length))),(5,some (.raw (.slice (some ⟨gs,0,none⟩) s.stack.length cap)))]) (λ (m,s,gs,cap,rest,tok)=> .cells gs 111 (HF s.stack rest):: .cells g12 4 (s.seen.map V.bool):: .cells g2 31 [.int name,Ae bs]::O tok s.out) (λ (m,s,gs,cap,rest,tok)=>(G5 bs m s).out=Gs bs/\Jt bs s/\Oi bs s<=m/\(HF s.stack rest).length=cap*2/\s.stack.length<=cap/\cap<=maxLen/\Ok tok s.out) (Ck bs+bs.length,Dz bs.length,g16,1,[],tok0) ⟨rfl,O2 h0,by rw [J3 h0];exact Yo _,rfl,Yo _,by simp only [maxLen];omega,hok0⟩ cv (Dk<|Drops.keepE (congrArg (Own.cells g12 4) (by rw [Ya];simp [Dz,Yf]))<|Dk<|Zt2 _) ?_);rintro ⟨m,⟨seen,stack,out⟩,gs,cap,rest,tok⟩ hA;obtain ⟨hgo,hI,hw,hll,hlc,hcm,hok⟩:=hA;dsimp only at hgo hI hw hll hlc hcm hok;have hsl:=(O1 hI).1;have hol:=Nat.le_trans (O1 hI).2 h128;refine Zb<|cd<|ca J<|Zc<|Zu2 (A4 underlying112 J ⟨J,J⟩) ((V.le.refl _:V.le _ (.int (stack.length:Int))))<|cj J J J<|Zn1 J (λ h19=> ?_)<|λ h19=> ?_
 .
  obtain⟨p,tl,rfl⟩:=List.exists_cons_of_ne_nil (l:=stack) (λ e=>by subst e;simp at h19);obtain ⟨b,e⟩:=p;have hp:=hI.stk (b,e) (List.mem_cons_self ..);dsimp only at hp;obtain ⟨bl,hbl⟩:=Ab bs b (by omega);have hto:=Bz hbl;rw [hto] at hp;have hne:(Eu.mk seen ((b,e)::tl) out).stack≠ []:=by simp
  have hw1:=AaO hI.toDfsInv0 hne;obtain ⟨m,rfl⟩:∃j,m=j+1:=⟨m - 1,by omega⟩;rw [G5,if_neg hne] at hgo;have hI2:=RN hE hI;have hse:HH bs ⟨seen,(b,e)::tl,out⟩=_:=HH.eq_def bs ⟨seen,(b,e)::tl,out⟩;dsimp only at hse;rw [hto] at hse;simp only [List.length_cons] at hlc hsl;refine co<|Zs<|cd<|ca J<|ca J<|Zc<|Zu2 (A4 underlying112 J ⟨J,J⟩) ((V.le.refl _:V.le _ (.int ((tl.length+1:Nat):Int))))<|Zc<|Zu2 (Zk2 J J (by omega) ⟨J,J⟩) ((V.le.of_eq (congrArg V.int (show ((tl.length+1:Nat):Int) - 1=(tl.length:Int) by omega)):V.le _ (.int (tl.length:Int))))<|Zc<|Zu2 (Zr2 sl112 J J (by omega) (by show(tl.length:Int)<((tl.length+1:Nat):Int);omega) ⟨J,J⟩) ((V.le.of_eq (congrArg (V.ptr gs) (by simp)):V.le _ (.ptr gs (tl.length*2))))<|cb J<|Zb<|Ap (G:=Unit) [([],[2],[]),([0],[25],[]),([],[6],[]),([2],[27],[]),([3,2],[28],[]),([4,3,2],[29],[]),(dn 6,[26,30],[]),(dn 7,[31],[]),(dn 8,[32],[]),(dn 9,[33],[]),(dn 10,[34],[])] [] (Bo _) [7] [7,25,26,27,28,29,30,31,32,33,34] J VT.mix<|ZA (λ γ=>Zf<|λ _ h2=>Ze<|Zn J<|Zj fa31_1 h2 z0)<|ZA (λ γ=>Zw 0 0 J<|λ _ h25=>Ze<|Zn J<|Zu 2 ty29 h25 J J z0)<|ZA (λ γ=>Zf<|λ _ h6=>Ze<|Zn J<|Zl h6 z0)<|ZA (λ γ=>Zw 2 0 J<|λ _ h27=>Ze<|Zn J<|Zv1 h27 z0)<|ZA (λ γ=>Zw 3 0 J<|λ _ h28=>Ze<|Zn J<|Zj fa111_0 h28 z0)<|ZA (λ γ=>Zw 4 0 J<|λ _ h29=>Ze<|Zn J<|Zu 0 ty3 h29 J (RI b e tl rest) z0)<|Zp (Zb3 _) (Zq<|λ γ=>Zw 1 4 J<|λ _ h26=>Zw 5 0 J<|λ _ h30=>Ze<|Zn J<|Zz (el:=An bl) sl29 h26 h30 (by omega) (Aq _ hbl)<|λ a31=>⟨⟨_,J⟩,J⟩)<|Zp (Zb3 _) (Zq<|λ γ=>Zw 6 0 J<|λ _ h31=>Ze<|Zc3 h31<|λ a_31 e31=>Zn J<|Zs2 fa40_2 e31 ⟨⟨_,J⟩,J⟩)<|Zp (Zb3 _) (Zq<|λ γ=>Zw 7 0 J<|λ _ h32=>Ze<|Zc3 h32<|λ a_32 e32=>Zn J<|Zw1 fa38_4 e32 J ⟨⟨_,J⟩,J⟩)<|ZA (λ γ=>Zw 8 0 J<|λ _ h33=>Ze<|Zc3 h33<|λ a_33 e33=>Zn J<|Zz1 ty36 e33 J z0)<|ZA (λ γ=>Zw 9 0 J<|λ _ h34=>Ze<|Zn J<|Zk h34 z0)<|Ak<|λ γ=>Zw 10 0 J<|λ r7 h7=>Ze ?_;have e7:r7=some _:=h7;subst e7;clear h7;refine Zi<|Zb<|cd<|ca J<|Zc<|Zv1 J<|cf fa111_1 J<|Zc<|Zu 0 ty3 J J (MU b e tl rest)<|ca J<|Zc<|Zd2 (n:=bl.qb.to.length) underlying36 J (by simp)<|λ hl40=>(cj J J J<|Zl1 J (λ h41=> ?_)<|λ h41=> ?_)
  .
   have hnone:bl.qb.to[e]? =none:=Yk (by omega);rw [hnone] at hse;dsimp only at hse;rw [hse] at hgo hI2 hw1;have hll2:=hll;rw [Ma] at hll2;have hle2:tl.length<=cap:=by omega
   have hcm2:=hcm;refine cd<|ca J<|ca J<|Zc<|Zv1 J<|cf fa111_0 J<|Zc<|Zu 0 ty3 J J (RI b e tl rest)<|Zc<|Hw [.tmp 46] (O tok out) [_,_,_] J J J hen AaK (hc tok out b hok hol) ?_;rintro r Sa ⟨tok2,rfl,hok2⟩;refine ⟨_,AaL,?_⟩;refine cn<|cd<|ca J<|ca J<|Zc<|Zu2 (A4 underlying112 J ⟨J,J⟩) ((V.le.refl _:V.le _ (.int ((tl.length+1:Nat):Int))))<|Zc<|Zu2 (Zk2 J J (by omega) ⟨J,J⟩) ((V.le.of_eq (congrArg V.int (show ((tl.length+1:Nat):Int) - 1=(tl.length:Int) by omega)):V.le _ (.int (tl.length:Int))))<|Zc<|Eb sl112 J J (by omega) (by omega)<|cb J<|Zt<|Ze1<|Zc1<|Zi ?_;exact ⟨(m,⟨seen,tl,out++ [b]⟩,gs,cap,[V.int b,V.int e]++rest,tok2),(by (try simp only []);omega),⟨hgo,hI2,by omega,hll2,hle2,hcm2,hok2⟩,cv,(Drops.keepE (by first | rfl | exact congrArg (Own.cells gs 111) (Ma b e tl rest) | exact congrArg (Own.cells g80 111) hpush) (Drops.keepE (by first | rfl | exact congrArg (Own.cells g12 4) (KZ _ _ _)) (Dk (Zt2 _))))⟩
  obtain⟨x,hx⟩:=Ab bl.qb.to e (by omega);obtain ⟨hx1,hx2⟩:=hE bl (Yc hbl) x (Yc hx);rw [hx] at hse;dsimp only at hse;obtain ⟨sb,hsb⟩:∃v,seen[x.block.toNat]? =some v:=⟨_,List.getElem?_eq_getElem (by rw [hI.len];omega)⟩;refine co<|cd<|ca J<|ca J<|Zc<|Zv1 J<|cf fa111_1 J<|Zc<|Zu 0 ty3 J J (MU b e tl rest)<|Zc<|Zz (el:=AA x) sl36 J J (by omega) (Aq _ hx)<|λ a58=>(Zc<|Zw1 fa64_0 J J<|Zc<|Zz1 ty3 J J<|cb J<|cd<|ca J<|Zc<|Zv1 J<|cf fa111_1 J<|Zc<|Zu 0 ty3 J J (MU b e tl rest)<|cm J J<|Zc<|Zv1 J<|cf fa111_1 J<|Zc<|Zy 0 ty3 J J J J (Ac8 b e tl rest)<|Za<|Zi ?_);rw [Ac9 b e tl rest];refine cd<|ca J<|ca J<|Zc<|Zr2 sl103 J J (by omega) (by omega)<|Zc<|Zf3 1 x.block.toNat ty4 J (by simp) J (Ya _).symm (AaJ hsb)<|Zc<|Zl2 J<|cn<|Zo1 J (λ h72=> ?_)<|λ h72=> ?_
  .
   subst h72;rw [if_pos hsb] at hse;rw [hse] at hgo hI2 hw1;refine cd<|ca J<|ca J<|Zc<|Zr2 sl103 J J (by omega) (by omega)<|Zc<|Zh3 1 x.block.toNat ty4 J (by simp) J J J (Ya _).symm (by rw [Ye,hI.len];omega)<|cn<|Zd<|ca J<|ca J<|Zc<|Zf2 [0] [.tmp 77] st111 J J J J<|Zc<|Zk3 [.tmp 78] sl112 J J J J J<|Zc<|GN 0 sl112 (by decide) J J J (by rw [RJ] at hll ⊢;exact hll) hlc hcm (by simp;omega) (by intro y hy;rw [Yl.1 hy];rfl)<|λ g80 cap80 rest80 hc80 hm80 hl80=> ?_;have hpush:=AaI x.block x.block.toNat (by omega) ((b,e+1)::tl) rest rest80;have hll2:(HF ((x.block.toNat,0)::(b,e+1)::tl) rest80).length=cap80*2:=(congrArg List.length hpush).symm.trans hl80;have hle2:tl.length+1+1<=cap80:=hc80;have hcm2:=hm80;have hok2:=hok;refine ci J<|Za<|Zb1<|Zi ?_;exact ⟨(m,⟨seen.set x.block.toNat true,(x.block.toNat,0)::(b,e+1)::tl,out⟩,g80,cap80,rest80,tok),(by (try simp only []);omega),⟨hgo,hI2,by omega,hll2,hle2,hcm2,hok2⟩,cv,(Drops.keepE (by first | rfl | exact congrArg (Own.cells gs 111) (Ma b e tl rest) | exact congrArg (Own.cells g80 111) hpush) (Drops.keepE (by first | rfl | exact congrArg (Own.cells g12 4) (KZ _ _ _)) (Dk (Zt2 _))))⟩
  have hok2:=hok;subst h72;rw [if_neg (by rw [hsb];decide)] at hse;rw [hse] at hgo hI2 hw1;have hll2:(HF ((b,e+1)::tl) rest).length=cap*2:=by rw [RJ] at hll ⊢;exact hll
  have hle2:tl.length+1<=cap:=hlc;have hcm2:=hcm;refine Zi1<|Zb1<|Zi ?_;exact ⟨(m,⟨seen,(b,e+1)::tl,out⟩,gs,cap,rest,tok),(by (try simp only []);omega),⟨hgo,hI2,by omega,hll2,hle2,hcm2,hok2⟩,cv,(Drops.keepE (by first | rfl | exact congrArg (Own.cells gs 111) (Ma b e tl rest) | exact congrArg (Own.cells g80 111) hpush) (Drops.keepE (by first | rfl | exact congrArg (Own.cells g12 4) (KZ _ _ _)) (Dk (Zt2 _))))⟩
 have hse:stack= []:=List.length_eq_zero_iff.1 (by omega);subst hse;have hpo:Gs bs=out:=by rw [<- hgo];cases m <;> simp [G5]
 refine Zt<|Ze1<|Ze1<|Zc1<|Zn3 J ?_;exact ⟨_,Drops.drop (Drops.drop (Drops.drop (Zt2 _))),tok,by rw [hpo],by rw [hpo];exact hok⟩
theorem OY (gs cap:Nat)(l:List Int)(rest:List V)(hl:l.length<=1000000):AH prog 40 [.raw (.slice (some ⟨gs,0,none⟩) l.length cap)] [.cells gs 3 (l.map V.int++rest)] λr S'=>S'= [.cells gs 3 (l.reverse.map V.int++rest)]:=by
 refine AB<|Al (nt:=28) func40 J J J ?_;refine cd<|Zc<|Zl rfl<|Zc<|A4 underlying32 rfl<|Zc<|Zk2 rfl rfl (by omega)<|Zc<|Zk rfl<|Zc<|Zk rfl<|cn<|Zs<|Zi2 (ι:=Nat×List Int) (λ (i,c)=>l.length - i) (λ (i,c)=> [(0,some (.raw (.slice (some ⟨gs,0,none⟩) l.length cap))),(2,some (.int i)),(3,some (.int ((l.length:Int) - 1 - i)))]) (λ (i,c)=> [.cells gs 3 (c.map V.int++rest)]) (λ (i,c)=>c.length=l.length/\2*i<=l.length+1/\∀t,t<l.length->c[t]? =if t<i\/l.length - i<=t then l[l.length - 1 - t]? else l[t]?) (0,l) ⟨rfl,by omega,λt ht=>by rw [if_neg (by omega)]⟩ ⟨rfl,rfl,(congrArg (λ n:Int=>some (V.int n)) (by omega)),trivial⟩ (Dk<|Zt2 _) ?_;rintro ⟨i,c⟩ hA;change c.length=l.length/\2*i<=l.length+1/\∀t,t<l.length->c[t]? =if t<i\/l.length - i<=t then l[l.length - 1 - t]? else l[t]? at hA
 obtain⟨hc,hi,hget⟩:=hA;refine Zb<|cd<|ca J<|ca J<|cj J J J<|Zn1 J (λ h9=> ?_)<|λ h9=> ?_
 .
  obtain⟨x,hx⟩:=Ab c i (by omega);obtain ⟨y,hy⟩:=Ab c (l.length - 1 - i) (by omega);have hjj:((l.length:Int) - 1 - i).toNat=l.length - 1 - i:=by omega
  refine co<|Zb<|Zs<|Ap (G:=Unit) [([],[0],[]),([],[2],[]),([],[0],[]),([],[3],[]),([],[0],[]),([],[3],[]),([5,4],[18,19],[]),([6,5,4],[20],[]),([],[0],[]),([],[2],[]),([9,8],[22,23],[]),([10,9,8],[24],[]),([11,10,9,8,7,6,5,4,1,0],[14,15],[]),([12,11,10,9,8,7,6,5,4,1,0],[26,21],[]),(dn 14,[16,17],[]),(dn 15,[27,25],[])] [13,15] (C9 _ (λ _=> [.cells gs 3 ((c.map V.int).set i (V.int y)++rest)])<|λ _ _=> [.cells gs 3 (((c.map V.int).set i (V.int y)).set (l.length - 1 - i) (V.int x)++rest)]) [] [14,15,16,17,18,19,20,21,22,23,24,25,26,27] J VT.mix<|Zp (Zm _) (Zo J J ⟨(λ γ=>Zf (λ _ h0=>Ze (Zn J (Zl h0 z0)))),trivial⟩)<|Zp (Zm _) (Zo J J ⟨(λ γ=>Zf (λ _ h2=>Ze (Zn J (Zl h2 z0)))),trivial⟩)<|Zp (Zm _) (Zm2 J<|λ _=>(λ γ=>Zf<|λ _ h0=>Ze<|Zn J<|Zl h0 z0))<|Zp (Zm _) (Zm2 J<|λ _=>(λ γ=>Zf<|λ _ h3=>Ze<|Zn J<|Zl h3 z0))<|Zp (Zm _) (Zo J J ⟨(λ γ=>Zf (λ _ h0=>Ze (Zn J (Zl h0 z0)))),trivial⟩)<|Zp (Zm _) (Zo J J ⟨(λ γ=>Zf (λ _ h3=>Ze (Zn J (Zl h3 z0)))),trivial⟩)<|Zp (Zm _) (Zo J J ⟨(λ γ=>Zw 4 1 J (λ _ h18=>Zw 5 0 J (λ _ h19=>Ze (Zn J (Zu2 (Zr2 sl32 h18 h19 (by omega) (by omega) z0) ((V.le.of_eq (congrArg (V.ptr gs) (by omega)):V.le _ (.ptr gs (l.length - 1 - i)))) z0))))),trivial⟩)<|Zp (Zm _) (Zo J J ⟨(λ γ=>Zw 6 0 J (λ _ h20=>Ze (Zn J (Zf3 0 (l.length - 1 - i) ty3 h20 J J J (Bn hy) z0)))),trivial⟩)<|Zp (Zm _) (Zo J J ⟨(λ γ=>Zf (λ _ h0=>Ze (Zn J (Zl h0 z0)))),trivial⟩)<|Zp (Zm _) (Zo J J ⟨(λ γ=>Zf (λ _ h2=>Ze (Zn J (Zl h2 z0)))),trivial⟩)<|Zp (Zm _) (Zo J J ⟨(λ γ=>Zw 8 1 J (λ _ h22=>Zw 9 0 J (λ _ h23=>Ze (Zn J (Zu2 (Zr2 sl32 h22 h23 (by omega) (by omega) z0) ((V.le.of_eq (congrArg (V.ptr gs) (by omega)):V.le _ (.ptr gs i))) z0))))),trivial⟩)<|Zp (Zm _) (Zo J J ⟨(λ γ=>Zw 10 0 J (λ _ h24=>Ze (Zn J (Zf3 0 i ty3 h24 J J J (Bn hx) z0)))),trivial⟩)<|Zp (Zm _) (Zo J J ⟨(λ γ=>Zw 0 11 J (λ _ h14=>Zw 1 10 J (λ _ h15=>Ze (Zn J (Zu2 (Zr2 sl32 h14 h15 (by omega) (by omega) z0) ((V.le.of_eq (congrArg (V.ptr gs) (by omega)):V.le _ (.ptr gs i))) z0))))),trivial⟩)<|Zp Za3 (Zo2 0 J<|λ γ=>Zw 12 0 J<|λ _ h26=>Zw 7 5 J<|λ _ h21=>Ze<|Zn J<|Zh3 0 i ty3 h26 J h21 J J J (by rw [Ye];omega) ⟨default,trivial,J⟩)<|Zp (Zm _) (Zo J J ⟨(λ γ=>Zw 2 11 J (λ _ h16=>Zw 3 10 J (λ _ h17=>Ze (Zn J (Zu2 (Zr2 sl32 h16 h17 (by omega) (by omega) z0) ((V.le.of_eq (congrArg (V.ptr gs) (by omega)):V.le _ (.ptr gs (l.length - 1 - i)))) z0))))),trivial⟩)<|Zp Za3 (Zo2 1 J<|λ γ=>Zw 14 0 J<|λ _ h27=>Zw 11 3 J<|λ _ h25=>Ze<|Zn J<|Zh3 0 (l.length - 1 - i) ty3 h27 J h25 J J J (by rw [Yh,Ye];omega) ⟨default,trivial,J⟩)<|Ak<|λ γ=>Ze<|Zb1<|Zi<|Zd<|ca J<|cm J J<|ca J<|Zc<|Zk2 J J (by omega)<|ci J<|ci J<|Za<|Zi ?_;exact ⟨(i+1,(c.set i y).set (l.length - 1 - i) x),(by (try simp only []);omega),⟨by simp [hc],by omega,ML hc hget (by omega) hx hy⟩,⟨rfl,rfl,(congrArg (λ n:Int=>some (V.int n)) (by omega)),trivial⟩,(Drops.keepE (congrArg (Own.cells gs 3) (by rw [Yf,Yf])) (Zt2 _))⟩
 have hrv:=AaM hc hget (by omega);subst hrv;refine Zt<|Ze1<|Ze1<|Zc1<|Zn3 J ?_;exact ⟨_,Zt2 _,rfl⟩
theorem VE (f:Ai):AP prog 20 [Bs f] (.tup [Ad ((if Bu f=0 then AJ f.qa else []).map λk:Nat=>(k:Int)), .int (Bu f)]):=by
 refine Al (nt:=17) func20 J J J ?_;refine cd<|Zc<|Zc2 J J<|λ g1=>(ci J<|cb J<|Zb<|cd<|Zc<|Zv 0 ty31 J J J<|Zc<|Zx1 [.tmp 6] J J en25 (GZ f)<|cb J<|cd<|ca J<|cj J J J<|Zm1 J (λ h9=> ?_)<|λ h9=> ?_)
 .
  refine cd<|ca J<|Zc<|Zu2 (Zk J ⟨J,J⟩) ((V.le.nil 1:V.le _ (Ad [])))<|cb J<|Zf1<|Zd1<|Zh1 J J (.cons (.tmp J)<|.cons (.tmp J)<|.nil) ?_;rw [if_neg h9];rfl
 have hok:=Bf h9;have hne:Gs f.qa≠ []:=λe=>by have:=(Dj hok.pos hok.edges).zero;rw [AJ,e] at this;cases this
 have hpl:=RO hok.pos hok.edges;have h128:=hok.len;refine co<|cd<|Zc<|Zb2 zr32 _ J J<|λ g5=>(cn<|A5 (S':= .cells g1 31 [.int f.name,Ae f.qa]::K0 g5 none []) (List.Perm.swap _ _ _)<|cd<|Zc<|Zv 0 ty31 J J J<|Zc<|Er [.tmp 5] J J<|Zc<|Dc [.tmp 11, .tmp 12] (K0 g5 none []) [_] J J en38 (Yj (l₁:= [_])) (RK f.name f.qa hok.pos hok.len hok.edges en39 (λ x l=>K0 g5 x l) Lw none J<|λ x l k h hl=>HG g5 x l k h hl) ?_);rintro r Sa ⟨x,rfl,hx⟩;obtain ⟨⟨gs,cap,rest⟩,rfl⟩:=MV hx hne;obtain ⟨hll,hlc,hcm⟩:=hx;refine ⟨_,Zt2 _,?_⟩;refine cn<|cd<|Zc<|Zu2 (Zu 0 ty32 J J J ⟨J,J⟩) ((V.le.of_eq (by rw [Ye]):V.le _ (.raw<|.slice (some ⟨gs,0,none⟩) ((Gs f.qa).map λk:Nat=>(k:Int)).length cap)))<|Zc<|Zm3 [.tmp 14] [_] _ J J en40 (Zv2 (i:=1) J) (OY gs cap ((Gs f.qa).map λk:Nat=>(k:Int)) rest (by rw [Ye];omega)) ?_;rintro r Sa rfl;refine cn<|cd<|cg 1 ty32 J J J<|ci J<|cb J<|D3 0 (q:=2) (rest:=rest) (((Gs f.qa).map λk:Nat=>(k:Int)).reverse.map V.int) J J (by rw [OW]) (by simp) hlc hcm (OX _)<|Zf1<|Zh1 J J (.cons (.tmp J)<|.cons (.tmp J)<|.nil) ?_;rw [if_pos h9,h9,AJ,List.map_reverse (f:=λk:Nat=>(k:Int))];rfl
end Go.Proofs.YthlflmmnankhhaaGreat.X13
end
