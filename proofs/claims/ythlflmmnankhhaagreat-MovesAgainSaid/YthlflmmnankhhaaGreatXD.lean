import Derived.Test.YthlflmmnankhhaaGreatX8
set_option maxRecDepth 100000
set_option maxHeartbeats 8000000
set_option linter.all false
open List renaming perm_append_singleton → Ya
section
namespace Go.Proofs.YthlflmmnankhhaaGreat.X9
open Go.VL Go.SM Go.Proofs.YthlflmmnankhhaaGreat X1 X2 X3 X4 X5 X6 X7 X8 VT Tryz
theorem Afs (gm gs cap:Nat)(u:Ao)(rest:List V)(tok:Tok)(G A:List (Nat×Nat))(M:AE)(hU:UOk u)(hM:MOk u M)(hl:M.left+M.stack.length<=1000000)(hne:M.stack≠ [])(hG:G.length=M.stack.length)(hA:A.length=M.heap.length)(hcap:(CR G++rest).length=cap)(hcm:cap<=maxLen):
  AH prog 51 [.ptr gm 0] (MS gm u gs cap rest tok G A M) λr S'=>MSt gm u (As u M) S':=by
 obtain⟨stack,left,short,over,out,fin,value,heap⟩:=M
 cases stack with
 | nil=>exact absurd rfl hne
 | cons f fs=>
  cases G with
  | nil=>simp at hG
  | cons p G=>
   simp at hG;exact Afw gm gs cap p.1 p.2 u rest tok G A ⟨f::fs,left,short,over,out,fin,value,heap⟩ f fs hU hM (by simpa using hl) rfl hG hA hcap hcm
theorem LN {f:FuncId}{vs vs':List V}{S:Af}{R:V->Af->Prop}(h:V.les vs vs')(k:AH prog f vs' S R):AH prog f vs S R:=Wx (λ m us hr=>(h.repL hr).1) k
theorem YI {b m o r:Own}{X:Af}:(m::o::r::b::X).Perm ((m::o::r::X)++ [b]):=by
 refine List.Perm.cons _<|List.Perm.cons _<|List.Perm.cons _ ?_;exact (Ya b X).symm
theorem YJ {b m o r:Own}{X:Af}:Drops ((m::o::r::X)++ [b]) (m::o::r::b::X):=by
 refine Drops.of_perm<|List.Perm.cons _<|List.Perm.cons _<|List.Perm.cons _ ?_;exact Ya b X
def EX (o:Out):V:= .agg [Ad o.out, .int o.fin, .int o.value]
theorem Aft (tok:Tok)(l:List Int)(a b:Int):V.le (.agg [D8 tok l, .int a, .int b]) (EX ⟨l,a,b⟩):=V.le.agg ⟨V.le.strip,rfl,V.le.refl _,rfl,V.le.refl _,rfl,trivial⟩
theorem Mm:V.le (.agg zs46) (EX ⟨[],0,0⟩):=V.le.agg ⟨V.le.nil 1,rfl,V.le.refl _,rfl,V.le.refl _,rfl,trivial⟩
theorem Td {m o row f v b4 b2:Own}:Drops [m,row,f,v,o,b4,b2] [m,o,row,b4,f,v]:=⟨[b2],by
 refine(AX (i:=6) J).trans<|.cons _<|(AX (i:=0) J).trans<|.cons _<|(AX (i:=3) J).trans<|.cons _<|(AX (i:=0) J).trans<|.cons _ ?_;exact (AX (i:=2) rfl).trans (.cons _ (.refl _))⟩
theorem YK (u:Ao)(fuel:Int)(hU:UOk u)(h0:1<=fuel)(h1:fuel<=1000000):AP prog 26 [DT u, .int fuel] (.tup [EX (BY u fuel).1, .int (BY u fuel).2.1, .int (BY u fuel).2.2]):=by
 obtain⟨F,hF⟩:=Ab u.fns u.main.toNat (by have:=hU.main;omega);have hr:=BY.eq_def u fuel;dsimp only at hr;refine Al (nt:=45) func26 J J J ?_;refine cd<|Zc<|Zc2 J J<|λ g2=>(Zc<|Zb2 zr46 _ J J<|λ g4=>(ci J<|cb J<|cd<|Zc<|Zv 1 ty24 J J J<|ca J<|Zc<|Zf2 [0,2] [.tmp 8, .tmp 9] st97 J J J J<|Zc<|Zc2 J J<|λ g11=>(cb J<|BE 0 (ls':= [BV u.fns, .int u.main, .raw (.slice none 0 0), .int fuel, .bool false, .bool false, .sl 1 (some .nil) [], .int 0, .int 0]) J ⟨V.le.refl _,J,V.le.refl _,J,V.le.refl _,J,V.le.refl _,J,V.le.refl _,J,V.le.refl _,J,V.le.nilTok 1,J,V.le.refl _,J,V.le.refl _,J,trivial⟩<|BR 3 1<|cd<|ca J<|cf fa24_1 J<|cg 3 ty3 J J J<|Zc<|Zm3 [.tmp 12, .tmp 14, .const _, .const (.int .i64 (0))] [_] _ J J en49 (Zv2 (i:=1) J) (LN (vs:= [.ptr g11 0, .int u.main,V.nilSl, .int 0]) (vs':= [.ptr g11 0, .int u.main,Ed (rho []) [], .int 0]) ⟨V.le.refl _,J,V.le.refl _,J,V.le.nil 4,J,V.le.refl _,J,trivial⟩<|AbV g11 u (D8 .nil []) (AE.mk [] fuel false false [] 0 0 []) (rho []) u.main 0 [] hU.main.1 hF (hU.ne F<|List.mem_of_getElem? hF) (by rw [hU.entry];rfl)) ?_)));rintro r Sa ⟨gf,gv,gs,cap,rest,hc,hcm,hcap,rfl⟩;refine cn<|Zb<|Zs<|Zi2 (ι:=Nat×AE×Nat×Nat×List V×Tok×List (Nat×Nat)×List (Nat×Nat)) (λ (k,M,gs,cap,rest,tok,G,A)=>k) (λ (k,M,gs,cap,rest,tok,G,A)=> [(1,some (.int fuel)),(4,some (.ptr g4 0)),(7,some (.ptr g11 0))]) (λ (k,M,gs,cap,rest,tok,G,A)=>AS g11 u (CK gs M.stack.length cap) (D8 tok M.out) M::GL tok M.out::Eh gs (CR G++rest):: .cells g4 46 zs46::BD (rho A) G M.stack++BU (rho A) A M.heap) (λ (k,M,gs,cap,rest,tok,G,A)=>goF u k M=goF u (fuel.toNat+1) (Bd u fuel)/\MOk u M/\(M.over=true\/M.stack≠ []/\M.left+1<=k)/\G.length=M.stack.length/\A.length=M.heap.length/\(CR G++rest).length=cap/\cap<=maxLen) (fuel.toNat+1,Bd u fuel,gs,cap,rest, .nil,[(gf,gv)],[]) ⟨rfl,PI hU (by omega) h1, .inr ⟨by simp [Bd,Dv],by show fuel+1<=_;omega⟩,rfl,rfl,hcap,hcm⟩ ⟨rfl,rfl,rfl,trivial⟩ Td ?_;rintro ⟨k,M,gs,cap,rest,tok,G,A⟩ hA;change goF u k M=goF u (fuel.toNat+1) (Bd u fuel)/\MOk u M/\(M.over=true\/M.stack≠ []/\M.left+1<=k)/\G.length=M.stack.length/\A.length=M.heap.length/\(CR G++rest).length=cap/\cap<=maxLen at hA;obtain ⟨hgo,hM,hov,hG,hA1,hcap,hcm⟩:=hA;have hl0:=hM.left0;have hl1:=hM.left;refine Zb<|cd<|ca J<|Zc<|Zv1 J<|cf fa97_4 J<|cg 0 ty4 J J J<|Zc<|Zl2 J<|cn<|Zo1 J (λ h20=> ?_)<|λ h20=> ?_
 .
  have h20:M.over=false:=by simpa using h20
  obtain⟨hne,hk⟩:M.stack≠ []/\M.left+1<=k:=hov.resolve_left (by rw [h20];decide);have hsl:1<=M.stack.length:=List.length_pos_iff.2 hne;obtain ⟨k,rfl⟩:∃j,k=j+1:=⟨k - 1,by omega⟩;refine co<|Zs<|cd<|ca J<|Zc<|Zm3 [.tmp 21, .const (.int .i64 (1))] [_] _ J J en50 (Zv2 (i:=0) J) (Aet g11 u (CK gs M.stack.length cap) (D8 tok M.out) M 1 (by omega) (by omega) hl0 (by omega)) ?_;rintro r Sa rfl;refine cn<|Zb<|cd<|ca J<|Zc<|Zv1 J<|cf fa97_3 J<|cg 0 ty4 J J J<|cn<|Zr1 J (λ h26=> ?_)<|λ h26=> ?_
  .
   rw [Fe h20 k h26] at hgo;rw [<- hgo,if_pos h26] at hr;refine cd<|Zc<|Zu2 (Zf2 [] [] st46 J J J J ⟨J,J⟩) (Mm)<|Zc<|Zx 3 ty46 J J J J J<|ci J<|cb J<|Zf1<|Zd1<|Za1<|Zd1<|Za1<|Zd1<|Zh1 J J (.cons (.agg (i:=3) ty46 J J J)<|.cons (.tmp J)<|.cons (.tmp J)<|.nil) ?_;rw [hr];first | done | rfl
  have hpm:=GY h26;rw [hpm.1];refine co<|Zd<|ca J<|Zc<|Dc [.tmp 28] (MS g11 u gs cap rest tok G A { M with left:=M.left - 1 }) [_] J J en51 (YI) (Afs g11 gs cap u rest tok G A { M with left:=M.left - 1 } hU (hM.paid hpm.2) (by show M.left - 1+(M.stack.length:Int)<=1000000;omega) hne hG hA1 hcap hcm) ?_;rintro r Sa ⟨gs1,cap1,rest1,tok1,G1,A1,hG1,hA2,hcap1,hcm1,rfl⟩;refine ⟨_,YJ,?_⟩;have hov2:(As u { M with left:=M.left - 1 }).over=true\/(As u { M with left:=M.left - 1 }).stack≠ []/\(As u { M with left:=M.left - 1 }).left+1<=k:=YG hU hM hpm.2 h20 hne hk;refine Za<|Zb1<|Zi ?_;exact ⟨(k,As u { M with left:=M.left - 1 },gs1,cap1,rest1,tok1,G1,A1),(by (try simp only []);omega),⟨by rw [<- hgo,Ef (by simpa using h20) k h26,hpm.1],QJ hU (hM.paid hpm.2) (by show M.left - 1+(M.stack.length:Int)<=1000000;omega),hov2,hG1,hA2,hcap1,hcm1⟩,⟨rfl,rfl,rfl,trivial⟩,(Drops.keep (Drops.keep (Drops.keep (Drops.keep (Zt2 _)))))⟩
 have h20:M.over=true:=by simpa using h20
 rw [DC h20] at hgo;rw [<- hgo] at hr;refine Zt<|Ze1<|Ze1<|Zc1<|Zi<|Zb<|cd<|ca J<|Zc<|Zv1 J<|cf fa97_3 J<|cg 0 ty4 J J J<|cn<|Zr1 J (λ h33=> ?_)<|λ h33=> ?_
 .
  rw [if_pos h33] at hr;refine cd<|Zc<|Zu2 (Zf2 [] [] st46 J J J J ⟨J,J⟩) (Mm)<|Zc<|Zx 3 ty46 J J J J J<|ci J<|cb J<|Zf1<|Zd1<|Zh1 J J (.cons (.agg (i:=3) ty46 J J J)<|.cons (.tmp J)<|.cons (.tmp J)<|.nil) ?_;rw [hr];first | done | rfl
 rw [if_neg (by rw [h33];decide)] at hr;refine co<|Zb<|Ap (G:=Unit) [([],[7],[]),([0],[35],[]),([1,0],[36],[]),([2,1,0],[37],[]),([],[1],[]),([],[7],[]),([5],[40],[]),([6,5],[41],[]),([7,6,5],[42],[]),([8,7,6,5,4],[39,43],[]),(dn 4,[4,38],[]),(dn 11,[44],[]),(dn 12,[],[])] [10] (DH _ 3<|λ _=> .cells g4 46 [Ad M.out, .int M.fin, .int M.value]) [5,6] [5,6,35,36,37,38,39,40,41,42,43,44] J VT.mix<|Zp (Zm _) (Zo J J ⟨(λ γ=>Zf (λ _ h7=>Ze (Zn J (Zl h7 z0)))),trivial⟩)<|Zp (Zm _) (Zo J J ⟨(λ γ=>Zw 0 0 J (λ _ h35=>Ze (Zn J (Zv1 h35 z0)))),trivial⟩)<|Zp (Zm _) (Zo J J ⟨(λ γ=>Zw 1 0 J (λ _ h36=>Ze (Zn J (Zj fa97_5 h36 z0)))),trivial⟩)<|Zp (Zm _) (Zo J J ⟨(λ γ=>Zw 2 0 J (λ _ h37=>Ze (Zn J (Zu2 (Zv 0 ty46 h37 J J z0) ((Aft tok M.out M.fin M.value)) z0)))),trivial⟩)<|Zp (Zm _) (Zm2 J<|λ _=>(λ γ=>Zf<|λ _ h1=>Ze<|Zn J<|Zl h1 z0))<|Zp (Zm _) (Zm2 J<|λ _=>(λ γ=>Zf<|λ _ h7=>Ze<|Zn J<|Zl h7 z0))<|Zp (Zm _) (Zm2 J<|λ _=>(λ γ=>Zw 5 0 J<|λ _ h40=>Ze<|Zn J<|Zv1 h40 z0))<|Zp (Zm _) (Zm2 J<|λ _=>(λ γ=>Zw 6 0 J<|λ _ h41=>Ze<|Zn J<|Zj fa97_2 h41 z0))<|Zp (Zm _) (Zo J J ⟨(λ γ=>Zw 7 0 J (λ _ h42=>Ze (Zn J (Zu 0 ty3 h42 J J z0)))),(λ γ=>Zw 7 0 J (λ _ h42=>Ze (Zn J (Zu 0 ty3 h42 J J z0)))),trivial⟩)<|Zp (Zm _) (Zm2 J<|λ _=>(λ γ=>Zw 4 4 J<|λ _ h39=>Zw 8 0 J<|λ _ h43=>Ze<|Zn J<|Zk2 h39 h43 (by omega) z0))<|Zp Za3 (Zn2 J<|λ γ=>Zf<|λ _ h4=>Zw 3 6 J<|λ _ h38=>Ze<|Zn J<|Zx 3 ty46 h4 h38 J J J ⟨default,trivial,J⟩)<|Zp (Zm _) (Zo J J ⟨(λ γ=>Zw 9 1 J (λ _ h44=>Ze (Zn J (Zk h44 z0)))),trivial⟩)<|Zp (Zm _) (Zo J J ⟨(λ γ=>Ze (Zn J (Zk J z0))),trivial⟩)<|Ak<|λ γ=>Zw 11 1 J<|λ r5 h5=>Zw 12 0 J<|λ r6 h6=>Ze ?_;have e5:r5=some _:=h5;subst e5;clear h5;have e6:r6=some _:=h6;subst e6;clear h6;refine Zi<|Zf1<|Zh1 J J (.cons (.agg (i:=3) ty46 J J J)<|.cons (.tmp J)<|.cons (.tmp J)<|.nil) ?_;rw [hr];first | done | rfl
theorem AbF (u:Ao)(fuel:Int):AP prog 13 [DT u, .int fuel] (.tup [EX (Cj u fuel).1, .int (Cj u fuel).2.1, .int (Cj u fuel).2.2]):=by
 have hr:=Cj.eq_def u fuel;refine Al (nt:=24) func13 J J J ?_;refine cd<|Zc<|Zc2 J J<|λ g2=>(Zc<|Zb2 zr46 _ J J<|λ g4=>(ci J<|cb J<|Zb<|cd<|Zc<|Zv 1 ty24 J J J<|Zc<|Zx1 [.tmp 8] J J en11 (Mn u)<|cb J<|cd<|ca J<|cj J J J<|Zm1 J (λ h11=> ?_)<|λ h11=> ?_))
 .
  rw [if_pos h11] at hr;refine cd<|Zc<|Zu2 (Zf2 [] [] st46 J J J J ⟨J,J⟩) (Mm)<|ca J<|Zc<|Zx 0 ty46 J J J J J<|ci J<|cb J<|Zf1<|Zd1<|Zh1 J J (.cons (.agg (i:=0) ty46 J J J)<|.cons (.tmp J)<|.cons (.tmp J)<|.nil) ?_;rw [hr];first | done | rfl
 rw [if_neg (by rw [h11];decide)] at hr;have hu:=GX h11;refine co<|Zb<|cd<|ca J<|Zc<|Zx1 [.tmp 14, .const (.int .i64 (1)), .const (.int .i64 (1000000))] J J en24 (DD _ _ _)<|Zc<|Zl2 J<|cn<|Zo1 J (λ h16=> ?_)<|λ h16=> ?_
 .
  rw [if_pos h16] at hr;refine cd<|Zc<|Zu2 (Zf2 [] [] st46 J J J J ⟨J,J⟩) (Mm)<|Zc<|Zx 0 ty46 J J J J J<|ci J<|cb J<|Zf1<|Zd1<|Zh1 J J (.cons (.agg (i:=0) ty46 J J J)<|.cons (.tmp J)<|.cons (.tmp J)<|.nil) ?_;rw [hr];first | done | rfl
 rw [if_neg (by rw [h16];decide)] at hr;have hw:=C0.1 h16;refine co<|cd<|Zc<|Zv 1 ty24 J J J<|ca J<|Zc<|Zx1 [.tmp 18, .tmp 19] J J en26 (YK u fuel hu.u hw.1 hw.2)<|Zc<|Zg2 J J<|Zc<|Zg2 J J<|Zc<|Zg2 J J<|Zc<|Zx 0 ty46 J J J J J<|ci J<|cb J<|Zf1<|Zh1 J J (.cons (.agg (i:=0) ty46 J J J)<|.cons (.tmp J)<|.cons (.tmp J)<|.nil) ?_;rw [hr];first | done | rfl
end Go.Proofs.YthlflmmnankhhaaGreat.X9
end
section
namespace Go.Proofs.YthlflmmnankhhaaGreat.X10
open Go.VL Go.SM Go.Proofs.YthlflmmnankhhaaGreat X1 X2 X3 X4 X5 X6 X7 X8 X9 VT Tryz
def AbG (a b:List Int):Bool:=decide (a=b)
def Ga (a b:Out):Bool:=decide (a.fin=b.fin)&&decide (a.value=b.value)&&AbG a.out b.out
theorem LO {a b:Out}:Ga a b=true↔a=b:=by
 cases a;cases b
 simp [Ga,AbG];constructor
 .rintro ⟨⟨h1,h2⟩,h3⟩;exact⟨h3,h1,h2⟩
 .rintro ⟨h1,h2,h3⟩;exact⟨⟨h2,h3⟩,h1⟩
theorem AdB {a b:List Int}{k:Nat}{x y:Int}(hx:a[k]? =some x)(hy:b[k]? =some y)(h:x≠y):a≠b:=λe=>by
 subst e;rw [hx] at hy;injection hy with hy;exact h hy
theorem YL {a b:List Int}(hl:a.length=b.length)(h:a.take a.length=b.take a.length):a=b:=by
 rw [List.take_length,hl,List.take_length] at h;exact h
theorem U1 (a b:List Int)(ta tb:Option Tok):AP prog 27 [.sl 1 ta (a.map V.int), .sl 1 tb (b.map V.int)] (.bool (AbG a b)):=by
 refine Al (nt:=26) func27 J J J ?_;refine cd<|cb J<|Zb<|cd<|ca J<|Zc<|Zd2 (n:=a.length) underlying32 J (by simp)<|λ hl8=>(ca J<|Zc<|Zd2 (n:=b.length) underlying32 J (by simp)<|λ hl10=>(cj J J J<|Zm1 J (λ h11=> ?_)<|λ h11=> ?_))
 .
  refine cd<|cb J<|Zf1<|Zd1<|Zg1 J (.tmp J) ?_;exact congrArg V.bool (decide_eq_false λe=>h11 (by rw [e])).symm
 have hll:a.length=b.length:=by omega
 refine co<|Zb<|cd<|ca J<|Zc<|Zd2 (n:=a.length) underlying32 J (by simp)<|λ hl13=>(ca J<|cn<|Zs<|Zi2 (ι:=Nat) (λ k=>a.length - k) (λ k=> [(1,some (.sl 1 tb (b.map V.int))),(12,some (.sl 1 ta (a.map V.int))),(13,some (.int a.length)),(14,some (.int k))]) (λ k=> []) (λ k=>k<=a.length/\a.take k=b.take k) 0 ⟨Nat.zero_le _,J⟩ cv (Drops.nil _) ?_);rintro k hA;change k<=a.length/\a.take k=b.take k at hA;obtain ⟨hk,hq⟩:=hA;refine cd<|cj J J J<|Zb<|Zn1 J (λ h15=> ?_)<|λ h15=> ?_
 .
  obtain⟨x,hx⟩:=Ab a k h15;obtain ⟨y,hy⟩:=Ab b k (by omega);refine co<|Zb<|Zs<|cd<|ca J<|Zc<|Zz (el:=V.int x) sl32 J J (by omega) (Bn hx)<|λ a17=>(Zc<|Zz1 ty3 J J<|ci J<|cb J<|cd<|ca J<|ca J<|Zc<|Zz (el:=V.int y) sl32 J J (by omega) (Bn hy)<|λ a21=>(Zc<|Zz1 ty3 J J<|ca J<|cj J J J<|Zm1 J (λ h24=> ?_)<|λ h24=> ?_))
  .
   refine cd<|cb J<|Zf1<|Za1<|Zd1<|Zd1<|Za1<|Zd1<|Zg1 J (.tmp J) ?_;exact congrArg V.bool (decide_eq_false (AdB hx hy (Ne.symm h24))).symm
  refine Zi1<|Zb1<|Zi<|Zd<|cm J J<|ca J<|Za<|Zi ?_;exact ⟨k+1,(by (try simp only []);omega),⟨by omega,by rw [AD hx,AD hy,hq,h24]⟩,cv,(Drops.nil _)⟩
 have hke:k=a.length:=by omega
 subst hke;refine Zt<|Ze1<|Ze1<|Zc1<|Zi<|cd<|cb J<|Zf1<|Zg1 J (.tmp J) ?_;exact congrArg V.bool (decide_eq_true (YL hll hq)).symm
theorem KC (a b:Out):AP prog 15 [EX a,EX b] (.bool (Ga a b)):=by
 refine Al (nt:=24) func15 J J J ?_;refine cd<|Zc<|Zc2 J J<|λ g2=>(Zc<|Zc2 J J<|λ g3=>(cb J<|cd<|cf fa46_1 J<|cg 1 ty3 J J J<|cf fa46_1 J<|cg 0 ty3 J J J<|ce J J J<|ca J<|Zj2 (q:=10) J (λ hq10=> ?_)<|λ hq10=> ?_))
 .
  refine Zc (Zj fa46_2 J ?_)<|Zy1 hq10;refine Zc (Zu 1 ty3 J J J ?_)<|Zy1 hq10;refine Zc (Zj fa46_2 J ?_)<|Zy1 hq10;refine Zc (Zu 0 ty3 J J J ?_)<|Zy1 hq10;refine Zc (Zj1 J J J ?_)<|Zy1 hq10;refine Zc<|Zs1 J hq10 J<|ca J<|Zj2 (q:=17) J (λ hq17=> ?_)<|λ hq17=> ?_
  .
   refine Zc (Zj fa46_0 J ?_)<|Zy1 hq17;refine Zc (Zu 1 ty32 J J J ?_)<|Zy1 hq17;refine Zc (Zj fa46_0 J ?_)<|Zy1 hq17;refine Zc (Zu 0 ty32 J J J ?_)<|Zy1 hq17;refine Zc (Zx1 [.tmp 19, .tmp 21] J J en27 (U1 a.out b.out none none) ?_)<|Zy1 hq17;refine Zc<|Zs1 J hq17 J<|cb J<|Zf1<|Zg1 J (.tmp J)<|congrArg V.bool ?_;simp at hq10
   first | (simp [Ga,hq10];done) | (simp at hq17;simp [Ga,hq10,hq17])
  refine Zk1 hq17<|Zk1 hq17<|Zk1 hq17<|Zk1 hq17<|Zk1 hq17<|Zc<|Zt1 J hq17 J<|cb J<|Zf1<|Zg1 J (.tmp J)<|congrArg V.bool ?_;simp at hq10
  first | (simp [Ga,hq10];done) | (simp at hq17;simp [Ga,hq10,hq17])
 refine Zk1 hq10<|Zk1 hq10<|Zk1 hq10<|Zk1 hq10<|Zk1 hq10<|Zc<|Zt1 J hq10 J<|ca J<|Zk1 J<|Zk1 J<|Zk1 J<|Zk1 J<|Zk1 J<|Zc<|Zt1 J J J<|cb J<|Zf1<|Zg1 J (.tmp J)<|congrArg V.bool ?_;simp at hq10
 first | (simp [Ga,hq10];done) | (simp at hq17;simp [Ga,hq10,hq17])
theorem Wl (to op n:Int)(args:List Int):AP prog 30 [.int to, .int op, .int n,Ad args] (AL ⟨to,op,n,args⟩):=by
 refine Al (nt:=14) func30 J J J ?_;refine cd<|Zc<|Zb2 zr42 _ J J<|λ g8=>(cn<|cd<|ca J<|ca J<|ca J<|ca J<|Zc<|Zf2 [0,1,2,3] [.tmp 9, .tmp 10, .tmp 11, .tmp 12] st42 J J J J<|Zc<|Zx 0 ty42 J J J J J<|cn<|Zf1<|Zg1 J (.agg (i:=0) ty42 J J J) ?_);rfl
theorem U2 (to op n:Int):AP prog 30 [.int to, .int op, .int n,V.nilSl] (AL ⟨to,op,n,[]⟩):=LN (vs':= [.int to, .int op, .int n,Ad []]) ⟨V.le.refl _,rfl,V.le.refl _,rfl,V.le.refl _,rfl,V.le.nil 1,rfl,trivial⟩ (Wl to op n [])
theorem AbH (k:Int)(args:List Int):AP prog 31 [.int k,Ad args] (He ⟨1,0,0,[],[⟨k,args⟩]⟩):=by
 refine Al (nt:=10) func31 J J J ?_;refine cd<|Zc<|Zb2 zr38 _ J J<|λ g4=>(cn<|cd<|ca J<|ca J<|Zc<|Zf2 [0,1] [.tmp 5, .tmp 6] st64 J J J J<|Zc<|Zk3 [.tmp 7] sl36 J J J J J<|Zc<|Zu2 (Zf2 [0,4] [.const (.int .i64 (1)), .tmp 8] st38 J J J J ⟨J,J⟩) ((V.le.agg (CC J<|CC J<|CC J<|I9 1<|CC J<|JJ):V.le _ (He ⟨1,0,0,[],[⟨k,args⟩]⟩)))<|Zc<|Zx 0 ty38 J J J J J<|cn<|Zf1<|Zg1 J (.agg (i:=0) ty38 J J J) ?_);rfl
theorem AdC:AP prog 18 [] (DT TL):=by
 refine Al (nt:=41) func18 J J J ?_;refine cd<|Zc<|Zb2 zr24 _ J J<|λ g0=>(cn<|cd<|cb J<|cd<|cb J<|cd<|ca J<|Zc<|CT [.const (.int .i64 (0)), .const (.int .i64 (0)), .const (.int .i64 (0)), .const _] J J J en30 (U2 0 0 0)<|Zc<|Zk3 [.tmp 4] sl35 J J J J J<|ca J<|Zc<|Zk3 [.const (.int .i64 (0))] sl32 J J J J J<|Zc<|CT [.const (.int .i64 (1)), .tmp 7] J J J en31 (AbH 1 [0])<|Zc<|Zu2 (Zf2 [1,2] [.tmp 5, .tmp 8] st40 J J J J ⟨J,J⟩) ((V.le.agg (I9 1<|CC J<|CC J<|CC J<|CC J<|CC J<|CC J<|JJ):V.le _ (An ⟨[],[⟨0,0,0,[]⟩],⟨1,0,0,[],[⟨1,[0]⟩]⟩⟩)))<|Zc<|Zk3 [.const (.int .i64 (1))] sl32 J J J J J<|ca J<|Zc<|CT [.const (.int .i64 (2)), .const (.int .i64 (0)), .const (.int .i64 (3)), .const _] J J J en30 (U2 2 0 3)<|ca J<|Zc<|Zk3 [.const (.int .i64 (1)), .const (.int .i64 (2))] sl32 J J J J J<|Zc<|CT [.const (.int .i64 (3)), .const (.int .i64 (6)), .const (.int .i64 (0)), .tmp 14] J J J en30 (Wl 3 6 0 [1,2])<|Zc<|Zk3 [.tmp 12, .tmp 15] sl35 J J J J J<|Zc<|Zu2 (Zf2 [0] [.const (.int .i64 (2))] st64 J J J J ⟨J,J⟩) ((V.le.agg (CC J<|I9 1<|JJ):V.le _ (AA ⟨2,[]⟩)))<|Zc<|Zu2 (Zf2 [0] [.const (.int .i64 (3))] st64 J J J J ⟨J,J⟩) ((V.le.agg (CC J<|I9 1<|JJ):V.le _ (AA ⟨3,[]⟩)))<|Zc<|Zk3 [.tmp 17, .tmp 18] sl36 J J J J J<|Zc<|Zu2 (Zf2 [0,1,4] [.const (.int .i64 (2)), .const (.int .i64 (3)), .tmp 19] st38 J J J J ⟨J,J⟩) ((V.le.agg (CC J<|CC J<|CC J<|I9 1<|CC J<|JJ):V.le _ (He ⟨2,3,0,[],[⟨2,[]⟩,⟨3,[]⟩]⟩)))<|Zc<|Zf2 [0,1,2] [.tmp 10, .tmp 16, .tmp 20] st40 J J J J<|ca J<|Zc<|Zk3 [.const (.int .i64 (1))] sl32 J J J J J<|Zc<|CT [.const (.int .i64 (4)), .const (.int .i64 (15)), .const (.int .i64 (0)), .tmp 23] J J J en30 (Wl 4 15 0 [1])<|ca J<|Zc<|CT [.const (.int .i64 (5)), .const (.int .i64 (0)), .const (.int .i64 (1)), .const _] J J J en30 (U2 5 0 1)<|ca J<|Zc<|Zk3 [.const (.int .i64 (1)), .const (.int .i64 (5))] sl32 J J J J J<|Zc<|CT [.const (.int .i64 (6)), .const (.int .i64 (1)), .const (.int .i64 (0)), .tmp 28] J J J en30 (Wl 6 1 0 [1,5])<|Zc<|Zk3 [.tmp 24, .tmp 26, .tmp 29] sl35 J J J J J<|ca J<|Zc<|Zk3 [.const (.int .i64 (6))] sl32 J J J J J<|Zc<|CT [.const (.int .i64 (1)), .tmp 32] J J J en31 (AbH 1 [6])<|Zc<|Zu2 (Zf2 [1,2] [.tmp 30, .tmp 33] st40 J J J J ⟨J,J⟩) ((V.le.agg (I9 1<|CC J<|CC J<|CC J<|CC J<|CC J<|CC J<|JJ):V.le _ (An ⟨[],[⟨4,15,0,[1]⟩,⟨5,0,1,[]⟩,⟨6,1,0,[1,5]⟩],⟨1,0,0,[],[⟨1,[6]⟩]⟩⟩)))<|Zc<|Zu2 (Zf2 [1] [.const (.int .i64 (1))] st38 J J J J ⟨J,J⟩) ((V.le.agg (CC J<|CC J<|CC J<|I9 1<|I9 2<|JJ):V.le _ (He ⟨0,1,0,[],[]⟩)))<|Zc<|Zu2 (Zf2 [2] [.tmp 35] st40 J J J J ⟨J,J⟩) ((V.le.agg (I9 1<|I9 4<|CC J<|CC J<|CC J<|CC J<|CC J<|JJ):V.le _ (An ⟨[],[],⟨0,1,0,[],[]⟩⟩)))<|Zc<|Zk3 [.tmp 9, .tmp 21, .tmp 34, .tmp 36] sl29 J J J J J<|Zc<|Zf2 [0,1] [.const (.int .i64 (-1)), .tmp 37] st31 J J J J<|Zc<|Zk3 [.tmp 38] sl22 J J J J J<|Zc<|Zf2 [0] [.tmp 39] st24 J J J J<|Zc<|Zx 0 ty24 J J J J J<|cn<|Zf1<|Zg1 J (.agg (i:=0) ty24 J J J) ?_);rfl
theorem AdD:AP prog 6 [] (.bool true):=by
 refine Al (nt:=22) func6 J J J ?_;refine cd<|cb J<|cd<|Zc<|Zx1 [] J J en18 (AdC)<|Zc<|Zu2 (Zx1 [.tmp 5, .const (.int .i64 (27))] J J en13 (AbF TL 27) ⟨J,J⟩) ((V.le.of_eq (by rw [Rr]):V.le _ (.tup [EX ⟨[0,1,2],0,3⟩, .int 27, .int 0])))<|ca J<|Zc<|Zg2 J J<|Zc<|Zg2 J J<|Zc<|Zg2 J J<|Zc<|Zb2 zr46 _ J J<|λ g1=>(Zc<|Zx 0 ty46 J J J J J<|ci J<|cb J<|cd<|ca J<|ce J J J<|ca J<|Zc (Zl J ?_)<|Zy1 J);refine Zc (Zj1 J J J ?_)<|Zy1 J;refine Zc<|Zs1 J J J<|ca J<|Zc (Zv 0 ty46 J J J ?_)<|Zy1 J;refine Zc (Zk3 [.const (.int .i64 (0)), .const (.int .i64 (1)), .const (.int .i64 (2))] sl32 J J J J J ?_)<|Zy1 J;refine Zc (Zu2 (Zf2 [0,2] [.tmp 18, .const (.int .i64 (3))] st46 J J J J ⟨J,J⟩) ((V.le.agg (CC J<|CC J<|CC J<|JJ):V.le _ (EX ⟨[0,1,2],0,3⟩))) ?_)<|Zy1 J;refine Zc (Zx1 [.tmp 17, .tmp 19] J J en15 (KC ⟨[0,1,2],0,3⟩ ⟨[0,1,2],0,3⟩) ?_)<|Zy1 J;refine Zc<|Zs1 J J J<|cb J<|Zf1<|Zg1 J (.tmp J) ?_;rfl
end Go.Proofs.YthlflmmnankhhaaGreat.X10
end
