import Derived.Test.YthlflmmnankhhaaGreatXS
import Derived.Test.YthlflmmnankhhaaGreatXE
set_option maxRecDepth 100000
set_option maxHeartbeats 4000000
set_option linter.all false
open List renaming length_map → Ya
namespace Go.Proofs.YthlflmmnankhhaaGreat.X20
open Go.VL Go.SM Go.Proofs.YthlflmmnankhhaaGreat XS X1 X2 X3 X4 X5 X6 X7 X8 X9 X10 X12 X13 VT Tryz
theorem Ue {f:Ai}(h0:Bu f=0):AH prog 20 [Bs f] [] λr S'=>∃g cap rest,(If f.qa).length<=cap/\cap<=maxLen/\r= .tup [.raw (.slice (some ⟨g,0,none⟩) (If f.qa).length cap), .int 0]/\S'= [.cells g 3 ((If f.qa).map V.int++rest)]:=by
 refine AB<|Al (nt:=17) func20 J J J ?_;refine cd<|Zc<|Zc2 J J<|λ g1=>(ci J<|cb J<|Zb<|cd<|Zc<|Zv 0 ty31 J J J<|Zc<|Zx1 [.tmp 6] J J en25 (GZ f)<|cb J<|cd<|ca J<|cj J J J<|Zm1 J (λ h9=> ?_)<|λ h9=> ?_)
 . exact absurd h0 h9
 have hok:=Bf h9;have hne:Gs f.qa≠ []:=λe=>by have:=(Dj hok.pos hok.edges).zero;rw [AJ,e] at this;cases this
 have hpl:=RO hok.pos hok.edges;have h128:=hok.len;have hoz:If f.qa=((Gs f.qa).map λk:Nat=>(k:Int)).reverse:=by rw [If,AJ,List.map_reverse]
 refine co<|cd<|Zc<|Zb2 zr32 _ J J<|λ g5=>(cn<|A5 (S':= .cells g1 31 [.int f.name,Ae f.qa]::K0 g5 none []) (List.Perm.swap _ _ _)<|cd<|Zc<|Zv 0 ty31 J J J<|Zc<|Er [.tmp 5] J J<|Zc<|Dc [.tmp 11, .tmp 12] (K0 g5 none []) [_] J J en38 (List.perm_append_comm (l₁:= [_])) (RK f.name f.qa hok.pos hok.len hok.edges en39 (λ x l=>K0 g5 x l) Lw none J<|λ x l k h hl=>HG g5 x l k h hl) ?_);rintro r Sa ⟨x,rfl,hx⟩;obtain ⟨⟨gs,cap,rest⟩,rfl⟩:=MV hx hne;obtain ⟨hll,hlc,hcm⟩:=hx;refine ⟨_,Zt2 _,?_⟩;refine cn<|cd<|Zc<|Zu2 (Zu 0 ty32 J J J ⟨J,J⟩) ((V.le.of_eq (by rw [Ya]):V.le _ (.raw<|.slice (some ⟨gs,0,none⟩) ((Gs f.qa).map λk:Nat=>(k:Int)).length cap)))<|Zc<|Zm3 [.tmp 14] [_] _ J J en40 (Zv2 (i:=1) J) (OY gs cap ((Gs f.qa).map λk:Nat=>(k:Int)) rest (by rw [Ya];omega)) ?_;rintro r Sa rfl;refine cn<|cd<|cg 1 ty32 J J J<|ci J<|cb J<|Zf1<|Zh1 J J (.cons (.tmp J)<|.cons (.tmp J)<|.nil)<|⟨_,(Drops.keep (Drops.drop (Drops.drop (Zt2 _)))),gs,cap,rest,by rw [hoz,List.length_reverse,Ya];exact hlc,hcm,?_,?_⟩
 . rw [hoz,List.length_reverse,Ya]
 rw [hoz]
theorem RH {f:Ai}(h0:Bu f=0):AP prog 8 [Bs f] (.tup [Ad (B9 f), .int 0]):=by
 have hok:=Bf h0;have ho:=Dj hok.pos hok.edges;have h128:=hok.len;have hzl:(If f.qa).length<=128:=by rw [If,Ya];exact Nat.le_trans (EQ ho.nodup ho.lt) h128
 refine Al (nt:=15) func8 J J J ?_;refine cd<|Zc<|Zc2 J J<|λ g1=>(ci J<|cb J<|cd<|Zc<|Zv 0 ty31 J J J<|Zc<|Zm3 [.tmp 7] [] _ J J en20 (.refl _) (Ue h0) ?_);rintro r Sa ⟨g,cap,rest,hlc,hcm,rfl,rfl⟩;refine ca J<|Zc<|Zg2 J J<|Zc<|Zg2 J J<|ci J<|cb J<|cd<|ca J<|Zc<|Zm3 [.tmp 11] [_] _ J J en21 (Zv2 (i:=0) J) (Ae1 g cap 3 (If f.qa) rest (by omega)) ?_;rintro r Sa rfl;refine cn<|D3 0 (q:=4) (rest:=rest) ((B9 f).map V.int) J J (by rw [OW];rfl) (by rw [Ya,B9,List.length_mergeSort]) hlc hcm (OX _)<|cd<|ca J<|ca J<|ci J<|cb J<|Zf1<|Zh1 J J (.cons (.tmp J)<|.cons (.tmp J)<|.nil) ?_;rfl
end Go.Proofs.YthlflmmnankhhaaGreat.X20
