import Derived.Test.YthlflmmnankhhaaGreatVQ9
import Derived.Test.YthlflmmnankhhaaGreatX20
set_option maxRecDepth 100000
set_option maxHeartbeats 16000000
open Go.VL.Drops renaming keep → Dk
set_option linter.all false
open List renaming length_map → Ya, length_take → Yb, length_append → Yc, getElem?_eq_some_iff → Yd, mem_of_getElem? → Ye, take_length → Yf, getElem?_eq_getElem → Yg, flatMap_cons → Yh, mem_map → Yi, map_append → Yj, getElem?_append_right → Yk, length_singleton → Yl, map_map → Ym, mem_singleton → Yn, flatMap_append → Yo, cons_ne_nil → Yp, length_nil → Yq, append_assoc → Yr, replicate → Ys, getElem?_append_left → Yt, length_cons → Yu, set_append_right → Yv, map_eq_nil_iff → Yw
open Nat renaming zero_le → Yx
section
namespace Go.Proofs.YthlflmmnankhhaaGreat.X25
open Go.VL Go.SM Go.Proofs.YthlflmmnankhhaaGreat XS X1 X2 X3 X4 X5 X6 X7 X8 X9 X10 X12 X13 VT Tryz
def cpV (b:Aa)(o:Option A3):V:= .agg [Ad b.params,AF b.ins, .int b.qb.kind, .int b.qb.arg, .int b.qb.n,Ad b.qb.cases,Av o]
def cpL (bs:List Aa)(rows:List (Option A3)):List V:=List.zipWith cpV bs rows
abbrev BF (rows:List (Option A3)):Af:=rows.flatMap (Be 64)
structure E5 (bs:List Aa)(rows:List (Option A3)):Prop where
 len:rows.length=bs.length
 row:∀(k:Nat) (b:Aa) (o:Option A3),bs[k]? =some b->rows[k]? =some o->xl o=b.qb.to.map AA/\xOk 2 o
theorem DV (o:Option A3):(Av o).leaf=true:=by cases o <;> rfl
theorem Qe (b:Aa)(o:Option A3):([cpV b o]:List V).all (V.fits 7)=true:=by cases o <;> rfl
theorem Rx {bs:List Aa}{rows:List (Option A3)}{k:Nat}{b:Aa}(o:Option A3)(h:E5 (bs.take k) rows)(hb:bs[k]? =some b):cpL (bs.take k) rows++ [cpV b o]=cpL (bs.take (k+1)) (rows++ [o]):=by
 unfold cpL;rw [AD hb,List.zipWith_append h.len.symm];rfl
theorem JX {bs:List Aa}{rows:List (Option A3)}(h:E5 bs rows):(cpL bs rows).length=bs.length:=by
 unfold cpL;rw [List.length_zipWith,h.len,Nat.min_self]
theorem Ry:E5 [] []:=⟨rfl,λk b o hb=>by simp at hb⟩
theorem OL {bs:List Aa}{rows:List (Option A3)}{k:Nat}{b:Aa}{o:Option A3}(h:E5 (bs.take k) rows)(hb:bs[k]? =some b)(h1:xl o=b.qb.to.map AA)(h2:xOk 2 o):E5 (bs.take (k+1)) (rows++ [o]):=by
 have hl:=h.len;have hkb:=(Yd.1 hb).1;rw [Yb] at hl;refine ⟨by rw [AD hb,Yc,Yc,h.len];rfl,λj c p hc hp=> ?_⟩;rw [AD hb] at hc
 by_cases hj:j<rows.length
 .rw [Yt hj] at hp;rw [Yt (by rw [<- h.len];exact hj)] at hc;exact h.row j c p hc hp
 rw [Yk (by omega)] at hp;rw [Yk (by rw [<- h.len];omega), <- h.len] at hc
 have hj0:j - rows.length=0:=by
  have:=(Yd.1 hp).1;simp at this;omega
 rw [hj0] at hc hp;have hc:b=c:=by simpa using hc
 have hp:o=p:=by simpa using hp
 subst hc hp;exact ⟨h1,h2⟩
theorem Fo {xs:List V}{l:List Am}(h:xs=l.map AA):∀v∈xs,v.leaves.length=2:=λv hv=>by
 rw [h] at hv;obtain ⟨n,_,rfl⟩:=Yi.1 hv;rfl
theorem Qf {x:V}(h:x.flat=true):∀y∈ [x],y.flat=true:=λy hy=>by rw [Yn.1 hy];exact h
structure AcV (f:Ai):Prop where
 many:f.qa.length<=1000
 block:∀b∈f.qa,b.params.length<=10000/\b.ins.length<=10000/\b.qb.cases.length<=10000/\b.qb.to.length<=10000/\(∀i∈b.ins,i.args.length<=10000)/\∀e∈b.qb.to,e.args.length<=10000
theorem OM (rows:List (Option A3))(o:Option A3):(Be 64 o++BF rows).Perm (BF (rows++ [o])):=by
 unfold BF;rw [Yo,List.flatMap_singleton];exact List.perm_append_comm
theorem Aek {bs:List Aa}{rows:List (Option A3)}{xs:List V}(h:xs=cpL bs rows):∀x∈xs,x.leaves.length=7:=λx hx=>by
 rw [h] at hx;obtain ⟨i,hi⟩:=List.getElem?_of_mem hx;unfold cpL at hi;rw [List.getElem?_zipWith] at hi;split at hi
 .injection hi with hi;rw [<- hi];rfl
 .cases hi
theorem Aao (b:Aa)(o:Option A3):∀y∈ [cpV b o],y.flat=true:=λy hy=>by
 rw [Yn.1 hy]
 cases o <;> rfl
theorem BT (l:List Int)(hl:l.length<=1000000):AP prog 61 [.sl 1 none (l.map V.int)] (.sl 1 none (l.map V.int)):=by
 refine Al (nt:=8) func61 J J J ?_;refine cd<|cb J<|Zb<|cd<|ca J<|Zc<|L1 underlying32 J<|λ b4 hb4=>(cn<|Zr1 J (λ h4=> ?_)<|λ h4=> ?_)
 .
  have hn:l= []:=by simpa using hb4 h4
  subst hn;refine cd<|Zc<|Zu2 (Zk J ⟨J,J⟩) (V.le.nil 1)<|cn<|Zf1<|Zd1<|Zg1 J (.strip J) ?_;rfl
 refine co<|cd<|Zc<|Rg [] sl32 J J J J J<|λ t5=>(ca J<|Zc<|Zi3 0 _ sl32 J J J (by simp) (by simp;omega)<|λ t7=>(cb J<|Zf1<|Zg1 J (.strip J) ?_));rfl
theorem AeV {f:Ai}(hc:AcV f):AH prog 54 [Bs f] [] λr S'=>∃rows,E5 f.qa rows/\r= .agg [.int f.name, .sl 7 none (cpL f.qa rows)]/\S'=BF rows:=by
 refine AB ?_;have hmany:=hc.many;refine Al (nt:=83) func54 J J J ?_;refine cd<|Zc<|Zc2 rfl rfl<|λ g1=>(Zc<|Zb2 zr31 _ rfl rfl<|λ g2=>(cn<|cd<|Zc<|Zj fa31_0 rfl<|Zc<|Zu 1 ty3 rfl rfl rfl<|Zc<|Zf2 [0] [.tmp 12] st31 rfl rfl rfl rfl<|Zc<|Zb2 zr31 _ rfl rfl<|λ g3=>(Zc<|Zx 0 ty31 rfl rfl rfl rfl rfl<|cn<|BE 0 (ls':= [.int f.name, .sl 7 (some .nil) []]) rfl ⟨V.le.refl _,rfl,V.le.nilTok 7,rfl,trivial⟩<|BR 40 7<|Zb<|cd<|Zc<|Zj fa31_1 rfl<|Zc<|Zu 3 ty29 rfl rfl rfl<|Zc<|Zd2 (n:=f.qa.length) underlying29 rfl (by simp)<|λ hl16=>(Zc<|Zl rfl<|cn<|Zs<|Zi2 (ι:=Nat×Tok×List (Option A3)) (λ (k,tok,rows)=>f.qa.length - k) (λ (k,tok,rows)=> [(1,some (.ptr g1 0)),(2,some (.ptr g2 0)),(3,some (.ptr g3 0)),(15,some (Ae f.qa)),(16,some (.int f.qa.length)),(17,some (.int k))]) (λ (k,tok,rows)=> .buf tok 40 7 k:: .cells g3 31 [.int f.name, .sl 7 (some tok) (cpL (f.qa.take k) rows)]:: .cells g2 31 zs31:: .cells g1 31 [.int f.name,Ae f.qa]::BF rows) (λ (k,tok,rows)=>k<=f.qa.length/\E5 (f.qa.take k) rows) (0, .nil,[]) ⟨Yx _,Ry⟩ cr (Zt2 _) ?_))));rintro ⟨k,tok,rows⟩ hA;change k<=f.qa.length/\E5 (f.qa.take k) rows at hA;obtain ⟨hk,hR⟩:=hA;refine cd<|cj J J J<|Zb<|Zn1 J (λ h18=> ?_)<|λ h18=> ?_
 .
  obtain⟨b,hb⟩:=Ab f.qa k h18;obtain ⟨c1,c2,c3,c4,c5,c6⟩:=hc.block b (Ye hb);have hkl:(cpL (f.qa.take k) rows).length=k:=by rw [JX hR,Yb];omega
  refine co<|Zb<|Zs<|cd<|Zc<|Zz (el:=An b) sl29 J J (by omega) (Aq _ hb)<|λ a19=>(Zc<|Za2 ty40 J J<|Zc<|Zb2 zr40 _ J J<|λ g5=>(Zc<|Zx 0 ty40 J J J J J<|cn<|Zb<|Ap (G:=Nat) [([],[5],[]),([0],[21],[]),([1,0],[22],[]),([],[5],[]),([3],[24],[]),(dn 5,[23,25],[]),([],[],[0]),(dn 7,[6,26],[])] [6,7] (C9 _ (λ x=> .cells x 40 zs40:: .cells g5 40 [Ad b.params,AF b.ins, .int b.qb.kind, .int b.qb.arg, .int b.qb.n,Ad b.qb.cases,AC b.qb.to]:: .buf tok 40 7 k:: .cells g3 31 [.int f.name, .sl 7 (some tok) (cpL (f.qa.take k) rows)]:: .cells g2 31 zs31:: .cells g1 31 [.int f.name,Ae f.qa]::(BF rows)) (λ x _=> .cells x 40 [Ad b.params,V.nilSl, .int b.qb.kind, .int b.qb.arg, .int b.qb.n,Ad b.qb.cases,AC b.qb.to]:: .cells g5 40 [Ad b.params,AF b.ins, .int b.qb.kind, .int b.qb.arg, .int b.qb.n,Ad b.qb.cases,AC b.qb.to]:: .buf tok 40 7 k:: .cells g3 31 [.int f.name, .sl 7 (some tok) (cpL (f.qa.take k) rows)]:: .cells g2 31 zs31:: .cells g1 31 [.int f.name,Ae f.qa]::(BF rows))) [6] [6,21,22,23,24,25,26] J VT.mix<|Zp (Zm _) (Zm2 J<|λ _=>(λ γ=>Zf<|λ _ h5=>Ze<|Zn J<|Zj fa40_0 h5 z0))<|Zp (Zm _) (Zo J J ⟨(λ γ=>Zw 0 0 J (λ _ h21=>Ze (Zn J (Zu 0 ty32 h21 J J z0)))),(λ γ=>Zw 0 0 J (λ _ h21=>Ze (Zn J (Zu 1 ty32 h21 J J z0)))),trivial⟩)<|Zp (Zm _) (Zm2 J<|λ _=>(λ γ=>Zw 1 0 J<|λ _ h22=>Ze<|Zn J<|Zx1 [.tmp 22] J (Zp2 h22 Zq2) en61 (BT b.params (by omega)) z0))<|Zp (Zm _) (Zm2 J<|λ _=>(λ γ=>Zf<|λ _ h5=>Ze<|Zn J<|Zj fa40_2 h5 z0))<|Zp (Zm _) (Zo J J ⟨(λ γ=>Zw 3 0 J (λ _ h24=>Ze (Zn J (Zv 0 ty38 h24 J J z0)))),(λ γ=>Zw 3 0 J (λ _ h24=>Ze (Zn J (Zv 1 ty38 h24 J J z0)))),trivial⟩)<|Zp (Zm _) (Zm2 J<|λ _=>(λ γ=>Zw 2 2 J<|λ _ h23=>Zw 4 0 J<|λ _ h25=>Ze<|Zn J<|Zf2 [0,2] [.tmp 23, .tmp 25] st40 J J (Zp2 h23<|Zp2 h25 Zq2) J z0))<|Zp (Zw2<|λ g=> .ptr g 0) (Zo2 0 J<|λ γ=>Ze<|Zn J<|Zb2 zr40 _ J J<|λ g6=>⟨g6,⟨g6,J,J⟩,J⟩)<|Zp Za3 (Zo2 1 J<|λ γ=>Zw 6 0 J<|λ _ h6=>Zw 5 1 J<|λ _ h26=>Ze<|Zx2 h6<|λ e6=>Zn J<|Zx 0 ty40 e6 h26 J J J ⟨default,trivial,J⟩)<|Ak<|λ γ=>Zw 6 1 J<|λ r6 h6=>Ze ?_));have e6:r6=some _:=Zd3 h6;subst e6;clear h6;refine Zi<|BE 0 (ls':= [Ad b.params, .sl 4 (some .nil) [], .int b.qb.kind, .int b.qb.arg, .int b.qb.n,Ad b.qb.cases,AC b.qb.to]) J ⟨V.le.refl _,J,V.le.nilTok 4,J,V.le.refl _,J,V.le.refl _,J,V.le.refl _,J,V.le.refl _,J,V.le.refl _,J,trivial⟩<|BR 42 4 ?_;generalize hg6:γ 0=g6;refine Zb<|cd<|Zc<|Zj fa40_1 rfl<|Zc<|Zu 2 ty35 rfl rfl rfl<|Zc<|Zd2 (n:=b.ins.length) underlying35 rfl (by simp)<|λ hl29=>(Zc<|Zl rfl<|cn<|Zs<|Zi2 (ι:=Nat×Tok) (λ (j,ti)=>b.ins.length - j) (λ (j,ti)=> [(1,some (.ptr g1 0)),(2,some (.ptr g2 0)),(3,some (.ptr g3 0)),(15,some (Ae f.qa)),(16,some (.int f.qa.length)),(17,some (.int k)),(5,some (.ptr g5 0)),(6,some (.ptr g6 0)),(28,some (AF b.ins)),(29,some (.int b.ins.length)),(30,some (.int j))]) (λ (j,ti)=> .buf ti 42 4 j:: .cells g6 40 [Ad b.params, .sl 4 (some ti) ((b.ins.take j).map AL), .int b.qb.kind, .int b.qb.arg, .int b.qb.n,Ad b.qb.cases,AC b.qb.to]:: .cells g5 40 [Ad b.params,AF b.ins, .int b.qb.kind, .int b.qb.arg, .int b.qb.n,Ad b.qb.cases,AC b.qb.to]:: .buf tok 40 7 k:: .cells g3 31 [.int f.name, .sl 7 (some tok) (cpL (f.qa.take k) rows)]:: .cells g2 31 zs31:: .cells g1 31 [.int f.name,Ae f.qa]::BF rows) (λ (j,ti)=>j<=b.ins.length) (0, .nil) (Yx _) cy (Zt2 _) ?_);rintro ⟨j,ti⟩ hj;change j<=b.ins.length at hj;refine cd<|cj J J J<|Zb<|Zn1 J (λ h31=> ?_)<|λ h31=> ?_
  .
   obtain⟨i,hi⟩:=Ab b.ins j h31;have hia:=c5 i (Ye hi);refine co<|Zb<|Zs<|cd<|Zc<|Zz (el:=AL i) sl35 J J (by omega) (Aq _ hi)<|λ a32=>(Zc<|Za2 ty42 J J<|Zc<|Zb2 zr42 _ J J<|λ g8=>(Zc<|Zx 0 ty42 J J J J J<|cn<|cd<|cf fa42_3 J<|cg 0 ty32 J J J<|Zc<|Zx1 [.tmp 35] J J en61 (BT i.args (by omega))<|cf fa42_3 J<|Zc<|Zy 0 ty32 J J J J J<|cn<|Zd<|cf fa40_1 J<|cg 2 ty35 J J J<|Zc<|Zv 0 ty42 J J J<|Zc<|Zk3 [.tmp 40] sl35 J J J J J<|Zc<|Zi3 1 _ sl35 J J J (by simp;omega) (by simp;omega)<|λ t42=>(cf fa40_1 J<|Zc<|Zy 2 ty35 J J J J J<|Za<|Zb1<|Zi<|Zd<|cm J J<|ca J<|Za<|Zi ?_)));exact ⟨(j+1,t42),(by (try simp only []);omega),(by omega),cy,(Drops.drop (Drops.buf (by simp;omega) (Drops.keepE (congrArg (λ l=>Own.cells g6 40 [Ad b.params, .sl 4 (some t42) l, .int b.qb.kind, .int b.qb.arg, .int b.qb.n,Ad b.qb.cases,AC b.qb.to]) (by rw [AD hi,Yj];rfl)) (Dk (Drops.buf (by simp) (Dk (Dk (Dk (Zt2 _)))))))))⟩
  have hje:j=b.ins.length:=by omega
  subst hje;have hsi:V.le (.sl 4 (some ti) ((b.ins.take b.ins.length).map AL)) (AF b.ins):=by rw [Yf];exact V.le.strip
  refine Zt<|Ze1<|Ze1<|Zc1<|Zi<|BE 1 (ls':= [Ad b.params,AF b.ins, .int b.qb.kind, .int b.qb.arg, .int b.qb.n,Ad b.qb.cases,AC b.qb.to]) rfl ⟨V.le.refl _,rfl,hsi,rfl,V.le.refl _,rfl,V.le.refl _,rfl,V.le.refl _,rfl,V.le.refl _,rfl,V.le.refl _,rfl,trivial⟩<|cd<|Zc<|Zj fa40_2 rfl<|Zc<|Zj fa38_3 rfl<|Zc<|Zu 2 ty32 rfl rfl rfl<|Zc<|Zx1 [.tmp 47] rfl rfl en61 (BT b.qb.cases (by omega))<|Zc<|Zj fa40_2 rfl<|Zc<|Zj fa38_3 rfl<|Zc<|Zy 1 ty32 rfl rfl rfl rfl rfl<|cn<|cd<|Zc<|Zj fa40_2 rfl<|Zc<|Zj fa38_4 rfl<|Zc<|Zy 1 ty36 rfl rfl rfl rfl rfl<|cn<|Zb<|cd<|Zc<|Zj fa40_2 rfl<|Zc<|Zj fa38_4 rfl<|Zc<|Zu 2 ty36 rfl rfl rfl<|Zc<|Zd2 (n:=b.qb.to.length) underlying36 rfl (by simp)<|λ hl56=>(Zc<|Zl rfl<|cn<|Zs<|Zi2 (ι:=Nat×Option A3) (λ (j,o)=>b.qb.to.length - j) (λ (j,o)=> [(1,some (.ptr g1 0)),(2,some (.ptr g2 0)),(3,some (.ptr g3 0)),(15,some (Ae f.qa)),(16,some (.int f.qa.length)),(17,some (.int k)),(5,some (.ptr g5 0)),(6,some (.ptr g6 0)),(55,some (AC b.qb.to)),(56,some (.int b.qb.to.length)),(57,some (.int j))]) (λ (j,o)=> .cells g6 40 [Ad b.params,AF b.ins, .int b.qb.kind, .int b.qb.arg, .int b.qb.n,Ad b.qb.cases,Av o]:: .cells g5 40 [Ad b.params,AF b.ins, .int b.qb.kind, .int b.qb.arg, .int b.qb.n,Ad b.qb.cases,AC b.qb.to]:: .buf tok 40 7 k:: .cells g3 31 [.int f.name, .sl 7 (some tok) (cpL (f.qa.take k) rows)]:: .cells g2 31 zs31:: .cells g1 31 [.int f.name,Ae f.qa]::(Be 64 o++(BF rows))) (λ (j,o)=>j<=b.qb.to.length/\xl o=(b.qb.to.take j).map AA/\xOk 2 o) (0,none) ⟨Yx _,rfl,trivial⟩ cy (Drops.drop<|Dk<|Dk<|Drops.buf (by simp)<|Dk<|Dk<|Dk<|Zt2 _) ?_);rintro ⟨j,o⟩ hB;change j<=b.qb.to.length/\xl o=(b.qb.to.take j).map AA/\xOk 2 o at hB;obtain ⟨hj,hxo,hoo⟩:=hB;refine cd<|cj J J J<|Zb<|Zn1 J (λ h58=> ?_)<|λ h58=> ?_
  .
   obtain⟨e,he⟩:=Ab b.qb.to j h58;have hea:=c6 e (Ye he);have hxl:(xl o).length=j:=by rw [hxo,Ya,Yb];omega
   have hxs:xl o++ [AA e]=((b.qb.to.take (j+1)).map AA):=by rw [hxo,AD he,Yj];rfl
   refine co<|Zb<|Zs<|cd<|Zc<|Zz (el:=AA e) sl36 J J (by omega) (Aq _ he)<|λ a59=>(Zc<|Za2 ty64 J J<|Zc<|Zb2 zr64 _ J J<|λ g10=>(Zc<|Zx 0 ty64 J J J J J<|cn<|Ap (G:=(Option A3)) [([],[6],[]),([0],[61],[]),([1,0],[62],[]),([],[10],[]),([3],[64],[]),([],[10],[]),([5],[66],[]),([6,5],[67],[]),([7,6,5,4,3],[65,68],[]),([8,7,6,5,4,3],[69],[]),(dn 10,[63,70],[0]),(dn 11,[6],[]),(dn 12,[72],[]),(dn 13,[73,71],[])] [10,13] (C9 _ (λ x=>(.cells g10 64 [.int e.block,Ad e.args]:: .cells g6 40 [Ad b.params,AF b.ins, .int b.qb.kind, .int b.qb.arg, .int b.qb.n,Ad b.qb.cases,Av o]:: .cells g5 40 [Ad b.params,AF b.ins, .int b.qb.kind, .int b.qb.arg, .int b.qb.n,Ad b.qb.cases,AC b.qb.to]:: .buf tok 40 7 k:: .cells g3 31 [.int f.name, .sl 7 (some tok) (cpL (f.qa.take k) rows)]:: .cells g2 31 zs31:: .cells g1 31 [.int f.name,Ae f.qa]::(Be 64 (FK 2 ((b.qb.to.take (j+1)).map AA) x)++(BF rows))))<|λ x _=>(.cells g10 64 [.int e.block,Ad e.args]:: .cells g6 40 [Ad b.params,AF b.ins, .int b.qb.kind, .int b.qb.arg, .int b.qb.n,Ad b.qb.cases,Av (FK 2 ((b.qb.to.take (j+1)).map AA) x)]:: .cells g5 40 [Ad b.params,AF b.ins, .int b.qb.kind, .int b.qb.arg, .int b.qb.n,Ad b.qb.cases,AC b.qb.to]:: .buf tok 40 7 k:: .cells g3 31 [.int f.name, .sl 7 (some tok) (cpL (f.qa.take k) rows)]:: .cells g2 31 zs31:: .cells g1 31 [.int f.name,Ae f.qa]::(Be 64 (FK 2 ((b.qb.to.take (j+1)).map AA) x)++(BF rows)))) [] [61,62,63,64,65,66,67,68,69,70,71,72,73] J VT.mix<|Zp (Zm _) (Zo J J ⟨(λ γ=>Zf (λ _ h6=>Ze (Zn J (Zj fa40_2 h6 z0)))),trivial⟩)<|Zp (Zm _) (Zo J J ⟨(λ γ=>Zw 0 0 J (λ _ h61=>Ze (Zn J (Zj fa38_4 h61 z0)))),trivial⟩)<|Zp (Zm _) (Zo J J ⟨(λ γ=>Zw 1 0 J (λ _ h62=>Ze (Zn J (Zu 1 ty36 h62 J J z0)))),trivial⟩)<|Zp (Zm _) (Zo J J ⟨(λ γ=>Zf (λ _ h10=>Ze (Zn J (Zj fa64_0 h10 z0)))),trivial⟩)<|Zp (Zm _) (Zo J J ⟨(λ γ=>Zw 3 0 J (λ _ h64=>Ze (Zn J (Zu 0 ty3 h64 J J z0)))),trivial⟩)<|Zp (Zm _) (Zo J J ⟨(λ γ=>Zf (λ _ h10=>Ze (Zn J (Zj fa64_1 h10 z0)))),trivial⟩)<|Zp (Zm _) (Zo J J ⟨(λ γ=>Zw 5 0 J (λ _ h66=>Ze (Zn J (Zu 0 ty32 h66 J J z0)))),trivial⟩)<|Zp (Zm _) (Zo J J ⟨(λ γ=>Zw 6 0 J (λ _ h67=>Ze (Zn J (Zx1 [.tmp 67] J (Zp2 h67 Zq2) en61 (BT e.args (by omega)) z0)))),trivial⟩)<|Zp (Zm _) (Zo J J ⟨(λ γ=>Zw 4 3 J (λ _ h65=>Zw 7 0 J (λ _ h68=>Ze (Zn J (Zf2 [0,1] [.tmp 65, .tmp 68] st64 J J (Zp2 h65 (Zp2 h68 Zq2)) J z0))))),trivial⟩)<|Zp (Zm _) (Zo J J ⟨(λ γ=>Zw 8 0 J (λ _ h69=>Ze (Zn J (Zk3 [.tmp 69] sl36 J J J (Zp2 h69 Zq2) J z0)))),trivial⟩) ?_));refine Zp (Zw2<|λ x=>Av<|FK 2 ((b.qb.to.take (j+1)).map AA) x) (Zo2 0 J<|λ γ=>Zw 2 7 J<|λ _ h63=>Zw 9 0 J<|λ _ h70=>Ze<|Zn J<|Es (o:=o) ([.cells g10 64 [.int e.block,Ad e.args], .cells g6 40 [Ad b.params,AF b.ins, .int b.qb.kind, .int b.qb.arg, .int b.qb.n,Ad b.qb.cases,Av o], .cells g5 40 [Ad b.params,AF b.ins, .int b.qb.kind, .int b.qb.arg, .int b.qb.n,Ad b.qb.cases,AC b.qb.to], .buf tok 40 7 k, .cells g3 31 [.int f.name, .sl 7 (some tok) (cpL (f.qa.take k) rows)], .cells g2 31 zs31, .cells g1 31 [.int f.name,Ae f.qa]]++(BF rows)) (λ o'=>(.cells g10 64 [.int e.block,Ad e.args]:: .cells g6 40 [Ad b.params,AF b.ins, .int b.qb.kind, .int b.qb.arg, .int b.qb.n,Ad b.qb.cases,Av o]:: .cells g5 40 [Ad b.params,AF b.ins, .int b.qb.kind, .int b.qb.arg, .int b.qb.n,Ad b.qb.cases,AC b.qb.to]:: .buf tok 40 7 k:: .cells g3 31 [.int f.name, .sl 7 (some tok) (cpL (f.qa.take k) rows)]:: .cells g2 31 zs31:: .cells g1 31 [.int f.name,Ae f.qa]::(Be 64 o'++(BF rows)))) sl36 (by decide) h63 h70 (HS [.cells g10 64 [.int e.block,Ad e.args], .cells g6 40 [Ad b.params,AF b.ins, .int b.qb.kind, .int b.qb.arg, .int b.qb.n,Ad b.qb.cases,Av o], .cells g5 40 [Ad b.params,AF b.ins, .int b.qb.kind, .int b.qb.arg, .int b.qb.n,Ad b.qb.cases,AC b.qb.to], .buf tok 40 7 k, .cells g3 31 [.int f.name, .sl 7 (some tok) (cpL (f.qa.take k) rows)], .cells g2 31 zs31, .cells g1 31 [.int f.name,Ae f.qa]]) (λ o'=>(HS [.cells g10 64 [.int e.block,Ad e.args], .cells g6 40 [Ad b.params,AF b.ins, .int b.qb.kind, .int b.qb.arg, .int b.qb.n,Ad b.qb.cases,Av o], .cells g5 40 [Ad b.params,AF b.ins, .int b.qb.kind, .int b.qb.arg, .int b.qb.n,Ad b.qb.cases,AC b.qb.to], .buf tok 40 7 k, .cells g3 31 [.int f.name, .sl 7 (some tok) (cpL (f.qa.take k) rows)], .cells g2 31 zs31, .cells g1 31 [.int f.name,Ae f.qa]]).symm) hoo (Fo hxo) (λ _=>Yp _ _) (by rw [hxl,Yl];omega) (Qf J)<|λ o71 e71_1 e71_2 e71_3=>⟨o71,⟨_,J,(by show some (Av o71)=some (Av (FK 2 ((b.qb.to.take (j+1)).map AA) o71));rw [IQ (e71_1.trans hxs) e71_2])⟩,(by show((Own.cells g10 64 [.int e.block,Ad e.args]:: .cells g6 40 [Ad b.params,AF b.ins, .int b.qb.kind, .int b.qb.arg, .int b.qb.n,Ad b.qb.cases,Av o]:: .cells g5 40 [Ad b.params,AF b.ins, .int b.qb.kind, .int b.qb.arg, .int b.qb.n,Ad b.qb.cases,AC b.qb.to]:: .buf tok 40 7 k:: .cells g3 31 [.int f.name, .sl 7 (some tok) (cpL (f.qa.take k) rows)]:: .cells g2 31 zs31:: .cells g1 31 [.int f.name,Ae f.qa]::(Be 64 o71++(BF rows))):Af)=(.cells g10 64 [.int e.block,Ad e.args]:: .cells g6 40 [Ad b.params,AF b.ins, .int b.qb.kind, .int b.qb.arg, .int b.qb.n,Ad b.qb.cases,Av o]:: .cells g5 40 [Ad b.params,AF b.ins, .int b.qb.kind, .int b.qb.arg, .int b.qb.n,Ad b.qb.cases,AC b.qb.to]:: .buf tok 40 7 k:: .cells g3 31 [.int f.name, .sl 7 (some tok) (cpL (f.qa.take k) rows)]:: .cells g2 31 zs31:: .cells g1 31 [.int f.name,Ae f.qa]::(Be 64 (FK 2 ((b.qb.to.take (j+1)).map AA) o71)++(BF rows)));rw [IQ (e71_1.trans hxs) e71_2])⟩)<|Zp (Zm _) (Zo J J ⟨(λ γ=>Zf (λ _ h6=>Ze (Zn J (Zj fa40_2 h6 z0)))),trivial⟩)<|Zp (Zm _) (Zo J J ⟨(λ γ=>Zw 11 0 J (λ _ h72=>Ze (Zn J (Zj fa38_4 h72 z0)))),trivial⟩)<|Zp Za3 (Zo2 1 J<|λ γ=>Zw 12 0 J<|λ _ h73=>Zw 10 2 J<|λ _ h71=>Ze<|Zx2 h71<|λ e71=>Zn J<|Zy 1 ty36 h73 e71 (DV _) J J ⟨default,trivial,J⟩)<|Ak<|λ γ=>Ze<|Zb1<|Zi ?_;obtain ⟨n1,n2⟩:=Qj (sz:=2) (xs:=((b.qb.to.take (j+1)).map AA)) (Fo rfl) (by rw [Ya,Yb];simp only [maxLen];omega) (γ 0);refine Zd<|cm J J<|ca J<|Za<|Zi ?_;exact ⟨(j+1,FK 2 ((b.qb.to.take (j+1)).map AA) (γ 0)),(by (try simp only []);omega),⟨by omega,n1,n2⟩,cy,(Drops.drop (Dk (Dk (Drops.buf (by simp) (Dk (Dk (Dk (Zt2 _))))))))⟩
  have hje:j=b.qb.to.length:=by omega
  subst hje;rw [Yf] at hxo;have hR2:=OL hR hb hxo hoo;refine Zt<|Ze1<|Ze1<|Zc1<|Zi<|Zd<|cf fa31_1 J<|cg 3 ty29 J J J<|Zc<|Zv 0 ty40 J J J<|Zc<|Zk3 [.tmp 77] sl29 J J J J (Qe b o)<|Zc<|Zi3 2 _ sl29 J J J hkl.symm (by rw [hkl,Yl];omega)<|λ t79=>(cf fa31_1 J<|Zc<|Zy 3 ty29 J J J J J<|Za<|Zb1<|Zi<|CS (S':= .buf t79 40 7 (k+1):: .cells g3 31 [.int f.name, .sl 7 (some t79) (cpL (f.qa.take (k+1)) (rows++ [o]))]:: .cells g2 31 zs31:: .cells g1 31 [.int f.name,Ae f.qa]::(BF (rows++ [o]))) (.drop<|.drop ?_) ?_)
  . rw [<- Rx o hR hb];exact Drops.buf (by rw [Yc,hkl];rfl) (.keep (.keep (.keep (.of_perm (OM rows o)))))
  refine Zd<|cm J J<|ca J<|Za<|Zi ?_;exact ⟨(k+1,t79,rows++ [o]),(by (try simp only []);omega),⟨by omega,hR2⟩,cr,(Drops.buf (by simp) (Dk (Dk (Dk (Zt2 _)))))⟩
 have hke:k=f.qa.length:=by omega
 subst hke;have hst:V.le (.sl 7 (some tok) (cpL (f.qa.take f.qa.length) rows)) (.sl 7 none (cpL f.qa rows)):=by rw [Yf];exact V.le.strip
 rw [Yf] at hR;refine Zt<|Ze1<|Ze1<|Zc1<|Zi<|BE 1 (ls':= [.int f.name, .sl 7 none (cpL f.qa rows)]) J ⟨V.le.refl _,J,hst,J,trivial⟩<|cd<|Zc<|Zv 1 ty31 J J J<|Zc<|Zx 2 ty31 J J J J J<|cn<|Zf1<|Zg1 J (.agg (i:=2) ty31 J J J) ?_;exact ⟨_, .drop (.drop (.drop (.drop (.refl _)))),rows,hR,rfl,rfl⟩
theorem AcW {f:Ai}(hc:AcV f):AH prog 54 [Bs f] [] λr S'=>∃rows out,E5 f.qa rows/\xl out=cpL f.qa rows/\xOk 7 out/\r= .agg [.int f.name,Av out]/\S'=Be 40 out++BF rows:=by
 refine AB ?_;have hmany:=hc.many;refine Al (nt:=83) func54 J J J ?_;refine cd<|Zc<|Zc2 rfl rfl<|λ g1=>(Zc<|Zb2 zr31 _ rfl rfl<|λ g2=>(cn<|cd<|Zc<|Zj fa31_0 rfl<|Zc<|Zu 1 ty3 rfl rfl rfl<|Zc<|Zf2 [0] [.tmp 12] st31 rfl rfl rfl rfl<|Zc<|Zb2 zr31 _ rfl rfl<|λ g3=>(Zc<|Zx 0 ty31 rfl rfl rfl rfl rfl<|cn<|Zb<|cd<|Zc<|Zj fa31_1 rfl<|Zc<|Zu 2 ty29 rfl rfl rfl<|Zc<|Zd2 (n:=f.qa.length) underlying29 rfl (by simp)<|λ hl16=>(Zc<|Zl rfl<|cn<|Zs<|Zi2 (ι:=Nat×Option A3×List (Option A3)) (λ (k,out,rows)=>f.qa.length - k) (λ (k,out,rows)=> [(1,some (.ptr g1 0)),(2,some (.ptr g2 0)),(3,some (.ptr g3 0)),(15,some (Ae f.qa)),(16,some (.int f.qa.length)),(17,some (.int k))]) (λ (k,out,rows)=> .cells g3 31 [.int f.name,Av out]:: .cells g2 31 zs31:: .cells g1 31 [.int f.name,Ae f.qa]::(Be 40 out++BF rows)) (λ (k,out,rows)=>k<=f.qa.length/\E5 (f.qa.take k) rows/\xl out=cpL (f.qa.take k) rows/\xOk 7 out) (0,none,[]) ⟨Yx _,Ry,rfl,trivial⟩ cr (Zt2 _) ?_))));rintro ⟨k,out,rows⟩ hA;change k<=f.qa.length/\E5 (f.qa.take k) rows/\xl out=cpL (f.qa.take k) rows/\xOk 7 out at hA;obtain ⟨hk,hR,hxu,huo⟩:=hA;refine cd<|cj J J J<|Zb<|Zn1 J (λ h18=> ?_)<|λ h18=> ?_
 .
  obtain⟨b,hb⟩:=Ab f.qa k h18;obtain ⟨c1,c2,c3,c4,c5,c6⟩:=hc.block b (Ye hb);have hkl:(cpL (f.qa.take k) rows).length=k:=by rw [JX hR,Yb];omega
  refine co<|Zb<|Zs<|cd<|Zc<|Zz (el:=An b) sl29 J J (by omega) (Aq _ hb)<|λ a19=>(Zc<|Za2 ty40 J J<|Zc<|Zb2 zr40 _ J J<|λ g5=>(Zc<|Zx 0 ty40 J J J J J<|cn<|Zb<|Ap (G:=Nat) [([],[5],[]),([0],[21],[]),([1,0],[22],[]),([],[5],[]),([3],[24],[]),(dn 5,[23,25],[]),([],[],[0]),(dn 7,[6,26],[])] [6,7] (C9 _ (λ x=> .cells x 40 zs40:: .cells g5 40 [Ad b.params,AF b.ins, .int b.qb.kind, .int b.qb.arg, .int b.qb.n,Ad b.qb.cases,AC b.qb.to]:: .cells g3 31 [.int f.name,Av out]:: .cells g2 31 zs31:: .cells g1 31 [.int f.name,Ae f.qa]::(Be 40 out++BF rows)) (λ x _=> .cells x 40 [Ad b.params,V.nilSl, .int b.qb.kind, .int b.qb.arg, .int b.qb.n,Ad b.qb.cases,AC b.qb.to]:: .cells g5 40 [Ad b.params,AF b.ins, .int b.qb.kind, .int b.qb.arg, .int b.qb.n,Ad b.qb.cases,AC b.qb.to]:: .cells g3 31 [.int f.name,Av out]:: .cells g2 31 zs31:: .cells g1 31 [.int f.name,Ae f.qa]::(Be 40 out++BF rows))) [6] [6,21,22,23,24,25,26] J VT.mix<|Zp (Zm _) (Zm2 J<|λ _=>(λ γ=>Zf<|λ _ h5=>Ze<|Zn J<|Zj fa40_0 h5 z0))<|Zp (Zm _) (Zo J J ⟨(λ γ=>Zw 0 0 J (λ _ h21=>Ze (Zn J (Zu 0 ty32 h21 J J z0)))),(λ γ=>Zw 0 0 J (λ _ h21=>Ze (Zn J (Zu 1 ty32 h21 J J z0)))),trivial⟩)<|Zp (Zm _) (Zm2 J<|λ _=>(λ γ=>Zw 1 0 J<|λ _ h22=>Ze<|Zn J<|Zx1 [.tmp 22] J (Zp2 h22 Zq2) en61 (BT b.params (by omega)) z0))<|Zp (Zm _) (Zm2 J<|λ _=>(λ γ=>Zf<|λ _ h5=>Ze<|Zn J<|Zj fa40_2 h5 z0))<|Zp (Zm _) (Zo J J ⟨(λ γ=>Zw 3 0 J (λ _ h24=>Ze (Zn J (Zv 0 ty38 h24 J J z0)))),(λ γ=>Zw 3 0 J (λ _ h24=>Ze (Zn J (Zv 1 ty38 h24 J J z0)))),trivial⟩)<|Zp (Zm _) (Zm2 J<|λ _=>(λ γ=>Zw 2 2 J<|λ _ h23=>Zw 4 0 J<|λ _ h25=>Ze<|Zn J<|Zf2 [0,2] [.tmp 23, .tmp 25] st40 J J (Zp2 h23<|Zp2 h25 Zq2) J z0))<|Zp (Zw2<|λ g=> .ptr g 0) (Zo2 0 J<|λ γ=>Ze<|Zn J<|Zb2 zr40 _ J J<|λ g6=>⟨g6,⟨g6,J,J⟩,J⟩)<|Zp Za3 (Zo2 1 J<|λ γ=>Zw 6 0 J<|λ _ h6=>Zw 5 1 J<|λ _ h26=>Ze<|Zx2 h6<|λ e6=>Zn J<|Zx 0 ty40 e6 h26 J J J ⟨default,trivial,J⟩)<|Ak<|λ γ=>Zw 6 1 J<|λ r6 h6=>Ze ?_));have e6:r6=some _:=Zd3 h6;subst e6;clear h6;refine Zi<|BE 0 (ls':= [Ad b.params, .sl 4 (some .nil) [], .int b.qb.kind, .int b.qb.arg, .int b.qb.n,Ad b.qb.cases,AC b.qb.to]) J ⟨V.le.refl _,J,V.le.nilTok 4,J,V.le.refl _,J,V.le.refl _,J,V.le.refl _,J,V.le.refl _,J,V.le.refl _,J,trivial⟩<|BR 42 4 ?_;generalize hg6:γ 0=g6;refine Zb<|cd<|Zc<|Zj fa40_1 rfl<|Zc<|Zu 2 ty35 rfl rfl rfl<|Zc<|Zd2 (n:=b.ins.length) underlying35 rfl (by simp)<|λ hl29=>(Zc<|Zl rfl<|cn<|Zs<|Zi2 (ι:=Nat×Tok) (λ (j,ti)=>b.ins.length - j) (λ (j,ti)=> [(1,some (.ptr g1 0)),(2,some (.ptr g2 0)),(3,some (.ptr g3 0)),(15,some (Ae f.qa)),(16,some (.int f.qa.length)),(17,some (.int k)),(5,some (.ptr g5 0)),(6,some (.ptr g6 0)),(28,some (AF b.ins)),(29,some (.int b.ins.length)),(30,some (.int j))]) (λ (j,ti)=> .buf ti 42 4 j:: .cells g6 40 [Ad b.params, .sl 4 (some ti) ((b.ins.take j).map AL), .int b.qb.kind, .int b.qb.arg, .int b.qb.n,Ad b.qb.cases,AC b.qb.to]:: .cells g5 40 [Ad b.params,AF b.ins, .int b.qb.kind, .int b.qb.arg, .int b.qb.n,Ad b.qb.cases,AC b.qb.to]:: .cells g3 31 [.int f.name,Av out]:: .cells g2 31 zs31:: .cells g1 31 [.int f.name,Ae f.qa]::(Be 40 out++BF rows)) (λ (j,ti)=>j<=b.ins.length) (0, .nil) (Yx _) cy (Zt2 _) ?_);rintro ⟨j,ti⟩ hj;change j<=b.ins.length at hj;refine cd<|cj J J J<|Zb<|Zn1 J (λ h31=> ?_)<|λ h31=> ?_
  .
   obtain⟨i,hi⟩:=Ab b.ins j h31;have hia:=c5 i (Ye hi);refine co<|Zb<|Zs<|cd<|Zc<|Zz (el:=AL i) sl35 J J (by omega) (Aq _ hi)<|λ a32=>(Zc<|Za2 ty42 J J<|Zc<|Zb2 zr42 _ J J<|λ g8=>(Zc<|Zx 0 ty42 J J J J J<|cn<|cd<|cf fa42_3 J<|cg 0 ty32 J J J<|Zc<|Zx1 [.tmp 35] J J en61 (BT i.args (by omega))<|cf fa42_3 J<|Zc<|Zy 0 ty32 J J J J J<|cn<|Zd<|cf fa40_1 J<|cg 2 ty35 J J J<|Zc<|Zv 0 ty42 J J J<|Zc<|Zk3 [.tmp 40] sl35 J J J J J<|Zc<|Zi3 1 _ sl35 J J J (by simp;omega) (by simp;omega)<|λ t42=>(cf fa40_1 J<|Zc<|Zy 2 ty35 J J J J J<|Za<|Zb1<|Zi<|Zd<|cm J J<|ca J<|Za<|Zi ?_)));exact ⟨(j+1,t42),(by (try simp only []);omega),(by omega),cy,(Drops.drop (Drops.buf (by simp;omega) (Drops.keepE (congrArg (λ l=>Own.cells g6 40 [Ad b.params, .sl 4 (some t42) l, .int b.qb.kind, .int b.qb.arg, .int b.qb.n,Ad b.qb.cases,AC b.qb.to]) (by rw [AD hi,Yj];rfl)) (Dk (Dk (Dk (Dk (Zt2 _))))))))⟩
  have hje:j=b.ins.length:=by omega
  subst hje;have hsi:V.le (.sl 4 (some ti) ((b.ins.take b.ins.length).map AL)) (AF b.ins):=by rw [Yf];exact V.le.strip
  refine Zt<|Ze1<|Ze1<|Zc1<|Zi<|BE 1 (ls':= [Ad b.params,AF b.ins, .int b.qb.kind, .int b.qb.arg, .int b.qb.n,Ad b.qb.cases,AC b.qb.to]) rfl ⟨V.le.refl _,rfl,hsi,rfl,V.le.refl _,rfl,V.le.refl _,rfl,V.le.refl _,rfl,V.le.refl _,rfl,V.le.refl _,rfl,trivial⟩<|cd<|Zc<|Zj fa40_2 rfl<|Zc<|Zj fa38_3 rfl<|Zc<|Zu 2 ty32 rfl rfl rfl<|Zc<|Zx1 [.tmp 47] rfl rfl en61 (BT b.qb.cases (by omega))<|Zc<|Zj fa40_2 rfl<|Zc<|Zj fa38_3 rfl<|Zc<|Zy 1 ty32 rfl rfl rfl rfl rfl<|cn<|cd<|Zc<|Zj fa40_2 rfl<|Zc<|Zj fa38_4 rfl<|Zc<|Zy 1 ty36 rfl rfl rfl rfl rfl<|cn<|Zb<|cd<|Zc<|Zj fa40_2 rfl<|Zc<|Zj fa38_4 rfl<|Zc<|Zu 2 ty36 rfl rfl rfl<|Zc<|Zd2 (n:=b.qb.to.length) underlying36 rfl (by simp)<|λ hl56=>(Zc<|Zl rfl<|cn<|Zs<|Zi2 (ι:=Nat×Option A3) (λ (j,o)=>b.qb.to.length - j) (λ (j,o)=> [(1,some (.ptr g1 0)),(2,some (.ptr g2 0)),(3,some (.ptr g3 0)),(15,some (Ae f.qa)),(16,some (.int f.qa.length)),(17,some (.int k)),(5,some (.ptr g5 0)),(6,some (.ptr g6 0)),(55,some (AC b.qb.to)),(56,some (.int b.qb.to.length)),(57,some (.int j))]) (λ (j,o)=> .cells g6 40 [Ad b.params,AF b.ins, .int b.qb.kind, .int b.qb.arg, .int b.qb.n,Ad b.qb.cases,Av o]:: .cells g5 40 [Ad b.params,AF b.ins, .int b.qb.kind, .int b.qb.arg, .int b.qb.n,Ad b.qb.cases,AC b.qb.to]:: .cells g3 31 [.int f.name,Av out]:: .cells g2 31 zs31:: .cells g1 31 [.int f.name,Ae f.qa]::(Be 64 o++(Be 40 out++BF rows))) (λ (j,o)=>j<=b.qb.to.length/\xl o=(b.qb.to.take j).map AA/\xOk 2 o) (0,none) ⟨Yx _,rfl,trivial⟩ cy (Drops.drop<|Dk<|Dk<|Dk<|Dk<|Dk<|Zt2 _) ?_);rintro ⟨j,o⟩ hB;change j<=b.qb.to.length/\xl o=(b.qb.to.take j).map AA/\xOk 2 o at hB;obtain ⟨hj,hxo,hoo⟩:=hB;refine cd<|cj J J J<|Zb<|Zn1 J (λ h58=> ?_)<|λ h58=> ?_
  .
   obtain⟨e,he⟩:=Ab b.qb.to j h58;have hea:=c6 e (Ye he);have hxl:(xl o).length=j:=by rw [hxo,Ya,Yb];omega
   have hxs:xl o++ [AA e]=((b.qb.to.take (j+1)).map AA):=by rw [hxo,AD he,Yj];rfl
   refine co<|Zb<|Zs<|cd<|Zc<|Zz (el:=AA e) sl36 J J (by omega) (Aq _ he)<|λ a59=>(Zc<|Za2 ty64 J J<|Zc<|Zb2 zr64 _ J J<|λ g10=>(Zc<|Zx 0 ty64 J J J J J<|cn<|Ap (G:=(Option A3)) [([],[6],[]),([0],[61],[]),([1,0],[62],[]),([],[10],[]),([3],[64],[]),([],[10],[]),([5],[66],[]),([6,5],[67],[]),([7,6,5,4,3],[65,68],[]),([8,7,6,5,4,3],[69],[]),(dn 10,[63,70],[0]),(dn 11,[6],[]),(dn 12,[72],[]),(dn 13,[73,71],[])] [10,13] (C9 _ (λ x=>(.cells g10 64 [.int e.block,Ad e.args]:: .cells g6 40 [Ad b.params,AF b.ins, .int b.qb.kind, .int b.qb.arg, .int b.qb.n,Ad b.qb.cases,Av o]:: .cells g5 40 [Ad b.params,AF b.ins, .int b.qb.kind, .int b.qb.arg, .int b.qb.n,Ad b.qb.cases,AC b.qb.to]:: .cells g3 31 [.int f.name,Av out]:: .cells g2 31 zs31:: .cells g1 31 [.int f.name,Ae f.qa]::(Be 64 (FK 2 ((b.qb.to.take (j+1)).map AA) x)++(Be 40 out++BF rows))))<|λ x _=>(.cells g10 64 [.int e.block,Ad e.args]:: .cells g6 40 [Ad b.params,AF b.ins, .int b.qb.kind, .int b.qb.arg, .int b.qb.n,Ad b.qb.cases,Av (FK 2 ((b.qb.to.take (j+1)).map AA) x)]:: .cells g5 40 [Ad b.params,AF b.ins, .int b.qb.kind, .int b.qb.arg, .int b.qb.n,Ad b.qb.cases,AC b.qb.to]:: .cells g3 31 [.int f.name,Av out]:: .cells g2 31 zs31:: .cells g1 31 [.int f.name,Ae f.qa]::(Be 64 (FK 2 ((b.qb.to.take (j+1)).map AA) x)++(Be 40 out++BF rows)))) [] [61,62,63,64,65,66,67,68,69,70,71,72,73] J VT.mix<|Zp (Zm _) (Zo J J ⟨(λ γ=>Zf (λ _ h6=>Ze (Zn J (Zj fa40_2 h6 z0)))),trivial⟩)<|Zp (Zm _) (Zo J J ⟨(λ γ=>Zw 0 0 J (λ _ h61=>Ze (Zn J (Zj fa38_4 h61 z0)))),trivial⟩)<|Zp (Zm _) (Zo J J ⟨(λ γ=>Zw 1 0 J (λ _ h62=>Ze (Zn J (Zu 1 ty36 h62 J J z0)))),trivial⟩)<|Zp (Zm _) (Zo J J ⟨(λ γ=>Zf (λ _ h10=>Ze (Zn J (Zj fa64_0 h10 z0)))),trivial⟩)<|Zp (Zm _) (Zo J J ⟨(λ γ=>Zw 3 0 J (λ _ h64=>Ze (Zn J (Zu 0 ty3 h64 J J z0)))),trivial⟩)<|Zp (Zm _) (Zo J J ⟨(λ γ=>Zf (λ _ h10=>Ze (Zn J (Zj fa64_1 h10 z0)))),trivial⟩)<|Zp (Zm _) (Zo J J ⟨(λ γ=>Zw 5 0 J (λ _ h66=>Ze (Zn J (Zu 0 ty32 h66 J J z0)))),trivial⟩)<|Zp (Zm _) (Zo J J ⟨(λ γ=>Zw 6 0 J (λ _ h67=>Ze (Zn J (Zx1 [.tmp 67] J (Zp2 h67 Zq2) en61 (BT e.args (by omega)) z0)))),trivial⟩)<|Zp (Zm _) (Zo J J ⟨(λ γ=>Zw 4 3 J (λ _ h65=>Zw 7 0 J (λ _ h68=>Ze (Zn J (Zf2 [0,1] [.tmp 65, .tmp 68] st64 J J (Zp2 h65 (Zp2 h68 Zq2)) J z0))))),trivial⟩)<|Zp (Zm _) (Zo J J ⟨(λ γ=>Zw 8 0 J (λ _ h69=>Ze (Zn J (Zk3 [.tmp 69] sl36 J J J (Zp2 h69 Zq2) J z0)))),trivial⟩) ?_));refine Zp (Zw2<|λ x=>Av<|FK 2 ((b.qb.to.take (j+1)).map AA) x) (Zo2 0 J<|λ γ=>Zw 2 7 J<|λ _ h63=>Zw 9 0 J<|λ _ h70=>Ze<|Zn J<|Es (o:=o) ([.cells g10 64 [.int e.block,Ad e.args], .cells g6 40 [Ad b.params,AF b.ins, .int b.qb.kind, .int b.qb.arg, .int b.qb.n,Ad b.qb.cases,Av o], .cells g5 40 [Ad b.params,AF b.ins, .int b.qb.kind, .int b.qb.arg, .int b.qb.n,Ad b.qb.cases,AC b.qb.to], .cells g3 31 [.int f.name,Av out], .cells g2 31 zs31, .cells g1 31 [.int f.name,Ae f.qa]]++(Be 40 out++BF rows)) (λ o'=>(.cells g10 64 [.int e.block,Ad e.args]:: .cells g6 40 [Ad b.params,AF b.ins, .int b.qb.kind, .int b.qb.arg, .int b.qb.n,Ad b.qb.cases,Av o]:: .cells g5 40 [Ad b.params,AF b.ins, .int b.qb.kind, .int b.qb.arg, .int b.qb.n,Ad b.qb.cases,AC b.qb.to]:: .cells g3 31 [.int f.name,Av out]:: .cells g2 31 zs31:: .cells g1 31 [.int f.name,Ae f.qa]::(Be 64 o'++(Be 40 out++BF rows)))) sl36 (by decide) h63 h70 (HS [.cells g10 64 [.int e.block,Ad e.args], .cells g6 40 [Ad b.params,AF b.ins, .int b.qb.kind, .int b.qb.arg, .int b.qb.n,Ad b.qb.cases,Av o], .cells g5 40 [Ad b.params,AF b.ins, .int b.qb.kind, .int b.qb.arg, .int b.qb.n,Ad b.qb.cases,AC b.qb.to], .cells g3 31 [.int f.name,Av out], .cells g2 31 zs31, .cells g1 31 [.int f.name,Ae f.qa]]) (λ o'=>(HS [.cells g10 64 [.int e.block,Ad e.args], .cells g6 40 [Ad b.params,AF b.ins, .int b.qb.kind, .int b.qb.arg, .int b.qb.n,Ad b.qb.cases,Av o], .cells g5 40 [Ad b.params,AF b.ins, .int b.qb.kind, .int b.qb.arg, .int b.qb.n,Ad b.qb.cases,AC b.qb.to], .cells g3 31 [.int f.name,Av out], .cells g2 31 zs31, .cells g1 31 [.int f.name,Ae f.qa]]).symm) hoo (Fo hxo) (λ _=>Yp _ _) (by rw [hxl,Yl];omega) (Qf J)<|λ o71 e71_1 e71_2 e71_3=>⟨o71,⟨_,J,(by show some (Av o71)=some (Av (FK 2 ((b.qb.to.take (j+1)).map AA) o71));rw [IQ (e71_1.trans hxs) e71_2])⟩,(by show((Own.cells g10 64 [.int e.block,Ad e.args]:: .cells g6 40 [Ad b.params,AF b.ins, .int b.qb.kind, .int b.qb.arg, .int b.qb.n,Ad b.qb.cases,Av o]:: .cells g5 40 [Ad b.params,AF b.ins, .int b.qb.kind, .int b.qb.arg, .int b.qb.n,Ad b.qb.cases,AC b.qb.to]:: .cells g3 31 [.int f.name,Av out]:: .cells g2 31 zs31:: .cells g1 31 [.int f.name,Ae f.qa]::(Be 64 o71++(Be 40 out++BF rows))):Af)=(.cells g10 64 [.int e.block,Ad e.args]:: .cells g6 40 [Ad b.params,AF b.ins, .int b.qb.kind, .int b.qb.arg, .int b.qb.n,Ad b.qb.cases,Av o]:: .cells g5 40 [Ad b.params,AF b.ins, .int b.qb.kind, .int b.qb.arg, .int b.qb.n,Ad b.qb.cases,AC b.qb.to]:: .cells g3 31 [.int f.name,Av out]:: .cells g2 31 zs31:: .cells g1 31 [.int f.name,Ae f.qa]::(Be 64 (FK 2 ((b.qb.to.take (j+1)).map AA) o71)++(Be 40 out++BF rows)));rw [IQ (e71_1.trans hxs) e71_2])⟩)<|Zp (Zm _) (Zo J J ⟨(λ γ=>Zf (λ _ h6=>Ze (Zn J (Zj fa40_2 h6 z0)))),trivial⟩)<|Zp (Zm _) (Zo J J ⟨(λ γ=>Zw 11 0 J (λ _ h72=>Ze (Zn J (Zj fa38_4 h72 z0)))),trivial⟩)<|Zp Za3 (Zo2 1 J<|λ γ=>Zw 12 0 J<|λ _ h73=>Zw 10 2 J<|λ _ h71=>Ze<|Zx2 h71<|λ e71=>Zn J<|Zy 1 ty36 h73 e71 (DV _) J J ⟨default,trivial,J⟩)<|Ak<|λ γ=>Ze<|Zb1<|Zi ?_;obtain ⟨n1,n2⟩:=Qj (sz:=2) (xs:=((b.qb.to.take (j+1)).map AA)) (Fo rfl) (by rw [Ya,Yb];simp only [maxLen];omega) (γ 0);refine Zd<|cm J J<|ca J<|Za<|Zi ?_;exact ⟨(j+1,FK 2 ((b.qb.to.take (j+1)).map AA) (γ 0)),(by (try simp only []);omega),⟨by omega,n1,n2⟩,cy,(Drops.drop (Dk (Dk (Dk (Dk (Dk (Zt2 _)))))))⟩
  have hje:j=b.qb.to.length:=by omega
  subst hje;rw [Yf] at hxo;have hR2:=OL hR hb hxo hoo;refine Zt<|Ze1<|Ze1<|Zc1<|Zi<|Zd<|cf fa31_1 J<|cg 2 ty29 J J J<|Zc<|Zv 0 ty40 J J J<|Zc<|Zk3 [.tmp 77] sl29 J J J J (Qe b o)<|Zc<|Es (o:=out) ([.cells g6 40 [Ad b.params,AF b.ins, .int b.qb.kind, .int b.qb.arg, .int b.qb.n,Ad b.qb.cases,Av o], .cells g5 40 [Ad b.params,AF b.ins, .int b.qb.kind, .int b.qb.arg, .int b.qb.n,Ad b.qb.cases,AC b.qb.to], .cells g3 31 [.int f.name,Av out], .cells g2 31 zs31, .cells g1 31 [.int f.name,Ae f.qa]]++(Be 64 o++BF rows)) (λ o'=> .cells g6 40 [Ad b.params,AF b.ins, .int b.qb.kind, .int b.qb.arg, .int b.qb.n,Ad b.qb.cases,Av o]:: .cells g5 40 [Ad b.params,AF b.ins, .int b.qb.kind, .int b.qb.arg, .int b.qb.n,Ad b.qb.cases,AC b.qb.to]:: .cells g3 31 [.int f.name,Av out]:: .cells g2 31 zs31:: .cells g1 31 [.int f.name,Ae f.qa]::(Be 40 o'++(Be 64 o++BF rows))) sl29 (by decide) J J (HS ([.cells g6 40 [Ad b.params,AF b.ins, .int b.qb.kind, .int b.qb.arg, .int b.qb.n,Ad b.qb.cases,Av o], .cells g5 40 [Ad b.params,AF b.ins, .int b.qb.kind, .int b.qb.arg, .int b.qb.n,Ad b.qb.cases,AC b.qb.to], .cells g3 31 [.int f.name,Av out], .cells g2 31 zs31, .cells g1 31 [.int f.name,Ae f.qa]]++Be 64 o)) (λ o'=>(HS [.cells g6 40 [Ad b.params,AF b.ins, .int b.qb.kind, .int b.qb.arg, .int b.qb.n,Ad b.qb.cases,Av o], .cells g5 40 [Ad b.params,AF b.ins, .int b.qb.kind, .int b.qb.arg, .int b.qb.n,Ad b.qb.cases,AC b.qb.to], .cells g3 31 [.int f.name,Av out], .cells g2 31 zs31, .cells g1 31 [.int f.name,Ae f.qa]]).symm) huo (Aek hxu) (λ _=>Yp _ _) (by rw [hxu,hkl,Yl];omega) (Aao b o)<|λ o79 e79_1 e79_2 e79_3=>(cf fa31_1 J<|Zc<|Zy 2 ty29 J J (DV _) J J<|Za<|Zb1<|Zi<|CS (S':= .cells g3 31 [.int f.name,Av o79]:: .cells g2 31 zs31:: .cells g1 31 [.int f.name,Ae f.qa]::(Be 40 o79++BF (rows++ [o]))) (.drop<|.drop<|.keep<|.keep<|.keep<|F6 _<|.of_perm<|OM rows o)<|Zd<|cm J J<|ca J<|Za<|Zi ?_);exact ⟨(k+1,o79,rows++ [o]),(by (try simp only []);omega),⟨by omega,hR2,e79_1.trans (by rw [hxu];exact Rx o hR hb),e79_2⟩,cr,(Dk (Dk (Dk (Zt2 _))))⟩
 have hke:k=f.qa.length:=by omega
 subst hke;rw [Yf] at hR;rw [Yf] at hxu;refine Zt<|Ze1<|Ze1<|Zc1<|Zi<|cd<|Zc<|Zv 0 ty31 J J J<|Zc<|Zx 1 ty31 J J J J J<|cn<|Zf1<|Zg1 J (.agg (i:=1) ty31 J J J) ?_;exact ⟨_, .drop (.drop (.drop (.refl _))),rows,out,hR,hxu,huo,rfl,rfl⟩
end Go.Proofs.YthlflmmnankhhaaGreat.X25
end
section
namespace Go.Proofs.YthlflmmnankhhaaGreat.X26
open Go.VL Go.SM Go.Proofs.YthlflmmnankhhaaGreat XS X1 X2 X3 X4 X5 X6 X7 X8 X9 X10 X12 X13 X20 X25 VT Tryz
def reE (at_:List Int)(e:Am):Am:=⟨gI at_ e.block,e.args⟩
def Dr (o:Option A3)(es:List Am):Option A3:=o.map λr=>⟨r.g,r.cap,es.map AA,r.rest⟩
def Fz (f:Ai)(to:List Am)(j:Nat):List Am:=(to.take j).map (reE (atF f))++to.drop j
def blk (f:Ai)(v:Nat):Aa:=f.qa[v]?.getD default
def DW (rows:List (Option A3))(v:Nat):Option A3:=rows[v]?.getD none
def Dw (es:List Am):List V:=es.flatMap λe=> [.int e.block,Ad e.args]
theorem KX (es:List Am):(es.map AA).flatMap V.leaves=Dw es:=by
 rw [List.flatMap_map];rfl
theorem TZ {es:List Am}{j:Nat}{e:Am}(h:es[j]? =some e):(Dw es)[j*2]? =some (.int e.block):=by
 induction es generalizing j with
 | nil=>simp at h
 | cons a es ih=>
  have hl:Dw (a::es)= [.int a.block,Ad a.args]++Dw es:=rfl
  cases j with
  | zero=>
   have h:a=e:=by simpa using h
   subst h;rfl
  | succ j=>
   have h:es[j]? =some e:=by simpa using h
   rw [hl,show(j+1)*2=j*2+2 by omega,Yk (by simp)];exact ih h
theorem Gp (es:List Am):(Dw es).length=es.length*2:=by
 induction es with
 | nil=>rfl
 | cons a es ih=>
  have hl:Dw (a::es)= [.int a.block,Ad a.args]++Dw es:=rfl;rw [hl,Yc,ih];simp only [Yu,Yq];omega
theorem T0 {es:List Am}{j:Nat}{e:Am}(h:es[j]? =some e)(p:Int):(Dw es).set (j*2) (.int p)=Dw (es.set j ⟨p,e.args⟩):=by
 induction es generalizing j with
 | nil=>simp at h
 | cons a es ih=>
  have hl:∀a:Am,∀es:List Am,Dw (a::es)= [.int a.block,Ad a.args]++Dw es:=λ_ _=>rfl
  cases j with
  | zero=>
   have h:a=e:=by simpa using h
   subst h;rfl
  | succ j=>
   have h:es[j]? =some e:=by simpa using h
   rw [List.set_cons_succ,hl,hl, <- ih h,List.set_append];have e1:¬((j+1)*2<([V.int a.block,Ad a.args]:List V).length):=by simp only [Yu,Yq];omega
   have e2:(j+1)*2 - ([V.int a.block,Ad a.args]:List V).length=j*2:=by simp only [Yu,Yq];omega
   rw [if_neg e1,e2]
theorem Aap (f:Ai)(to:List Am):Fz f to 0=to:=by simp [Fz]
theorem AcX (f:Ai)(to:List Am):Fz f to to.length=to.map (reE (atF f)):=by simp [Fz]
theorem L6 (f:Ai)(to:List Am)(j:Nat):(Fz f to j).length=to.length:=by
 unfold Fz;rw [Yc,Ya,Yb,List.length_drop];omega
theorem Vy {f:Ai}{to:List Am}{j:Nat}{e:Am}(h:to[j]? =some e):(Fz f to j)[j]? =some e:=by
 have hj:=(Yd.1 h).1;have hl:((to.take j).map (reE (atF f))).length=j:=by rw [Ya,Yb];omega
 unfold Fz;rw [Yk (by omega),hl,Nat.sub_self,List.getElem?_drop,Nat.add_zero];exact h
theorem Aaq {f:Ai}{to:List Am}{j:Nat}{e:Am}(h:to[j]? =some e):(Fz f to j).set j (reE (atF f) e)=Fz f to (j+1):=by
 have hj:=(Yd.1 h).1;have hl:((to.take j).map (reE (atF f))).length=j:=by rw [Ya,Yb];omega
 unfold Fz;rw [Yv _ _ (by omega),hl,Nat.sub_self,Ag h,List.set_cons_zero,AD h,Yj,Yr];rfl
theorem ON {o:Option A3}{es:List Am}(h:xl o=es.map AA):Dr o es=o:=by
 cases o with
 | none=>rfl
 | some r=>
  have h:r.xs=es.map AA:=h;show some (A3.mk r.g r.cap (es.map AA) r.rest)=some r;rw [<- h]
theorem Rz {rows:List (Option A3)}{v:Nat}(hv:v<rows.length)(o:Option A3):(BF (rows.set v o)).Perm (Be 64 o++BF (rows.set v none)):=by
 have h2:∀x,rows.set v x=rows.take v++x::rows.drop (v+1):=λx=>by rw [List.set_eq_take_append_cons_drop,if_pos hv]
 unfold BF;rw [h2,h2,Yo,Yh,Yo,Yh];show (_++(Be 64 o++_)).Perm (Be 64 o++(_++([]++_)));rw [List.nil_append, <- Yr, <- Yr];exact List.perm_append_comm.append_right _
structure T5 (f:Ai)(rows rows2:List (Option A3))(i:Nat):Prop where
 len:rows2.length=rows.length
 row:∀(v:Nat) (b:Aa) (o o2:Option A3),f.qa[v]? =some b->rows[v]? =some o->rows2[v]? =some o2->Av o2=Av o/\xOk 2 o2/\xl o2=(if v∈(Bq f).take i then b.qb.to.map (reE (atF f)) else b.qb.to).map AA
theorem T6 {f:Ai}{rows:List (Option A3)}(h:E5 f.qa rows):T5 f rows rows 0:=⟨rfl,λv b o o2 hb ho h2=>by
 rw [ho] at h2;injection h2 with h2;subst h2;obtain ⟨h3,h4⟩:=h.row v b o hb ho;exact ⟨rfl,h4,by rw [List.take_zero,if_neg (by simp)];exact h3⟩⟩
theorem IN {o:Option A3}{es:List Am}(h:(xl o).length=es.length):Av (Dr o es)=Av o:=by
 cases o with
 | none=>rfl
 | some r=>
  have h:r.xs.length=es.length:=h;show V.raw (.slice (some ⟨r.g,0,none⟩) (es.map AA).length r.cap)= .raw (.slice (some ⟨r.g,0,none⟩) r.xs.length r.cap);rw [Ya,h]
theorem L8 {o:Option A3}{es0 es:List Am}(h0:xl o=es0.map AA)(h:es0.length=es.length)(hk:xOk 2 o):xOk 2 (Dr o es):=by
 cases o with
 | none=>trivial
 | some r=>
  have h0:r.xs=es0.map AA:=h0;obtain ⟨h1,h2,h3⟩:=hk;rw [h0] at h1 h3;rw [KX,Yc,Gp] at h3;rw [Ya] at h1;refine ⟨?_,h2,?_⟩
  .show (es.map AA).length<=r.cap;rw [Ya];omega
  show((es.map AA).flatMap V.leaves++r.rest).length=r.cap*2;rw [KX,Yc,Gp];omega
theorem Qg {o:Option A3}{es:List Am}(h:(xl o).length=es.length):xl (Dr o es)=es.map AA:=by
 cases o with
 | none=>
  have h:0=es.length:=h;rw [List.length_eq_zero_iff.1 h.symm];rfl
 | some r=>rfl
theorem W6 {f:Ai}{rows rows2:List (Option A3)}{i v:Nat}{b:Aa}{o2:Option A3}(h:T5 f rows rows2 i)(hv:(Bq f)[i]? =some v)(hb:f.qa[v]? =some b)(h2:rows2[v]? =some o2)(hx:xl o2=b.qb.to.map AA):T5 f rows (rows2.set v (Dr o2 (Fz f b.qb.to b.qb.to.length))) (i+1):=by
 refine⟨by rw [List.length_set];exact h.len,λw c o p hc ho hp=> ?_⟩;rw [List.getElem?_set] at hp;split at hp
 .rename_i e;subst e;rw [hb] at hc;injection hc with hc;subst hc;split at hp
  .injection hp with hp;subst hp;obtain ⟨a1,a2,a3⟩:=h.row v b o o2 hb ho h2;have hl:(xl o2).length=(Fz f b.qb.to b.qb.to.length).length:=by rw [hx,Ya,L6]
   refine⟨(IN hl).trans a1,L8 hx (by rw [L6]) a2,?_⟩;rw [if_pos (by rw [AD hv];simp),Qg hl,AcX]
  cases hp
 rename_i e;obtain ⟨a1,a2,a3⟩:=h.row w c o p hc ho hp;refine ⟨a1,a2,?_⟩;rw [a3]
 have:w∈(Bq f).take (i+1)↔w∈(Bq f).take i:=by
  rw [AD hv,List.mem_append,Yn];exact ⟨λ h=>h.resolve_right λh=>e h.symm, .inl⟩
 simp only [this]
theorem Aar {f:Ai}{i v:Nat}(hv:(Bq f)[i]? =some v):v∉(Bq f).take i:=λh=>by
 obtain⟨j,hj⟩:=List.getElem?_of_mem h;have hji:=(Yd.1 hj).1;rw [Yb] at hji;rw [List.getElem?_take] at hj;split at hj
 .have:=Jx Ee hj hv;omega
 .cases hj
theorem Vz {bs:List Aa}{rows:List (Option A3)}{v:Nat}{b:Aa}{o:Option A3}(hb:bs[v]? =some b)(ho:rows[v]? =some o):(cpL bs rows)[v]? =some (cpV b o):=by
 unfold cpL;rw [List.getElem?_zipWith,hb,ho]
theorem Agf {f:Ai}{rows:List (Option A3)}{xs:List V}{l:List Nat}(h:xs=l.map λv=>cpV (blk f v) (DW rows v)):∀x∈xs,x.leaves.length=7:=λx hx=>by
 rw [h] at hx;obtain ⟨v,_,rfl⟩:=Yi.1 hx;rfl
theorem AcY (b:Aa)(o:Option A3):∀y∈ [cpV b o],y.flat=true:=λy hy=>by
 rw [Yn.1 hy]
 cases o <;> rfl
theorem VA {f:Ai}(h0:Bu f=0):AcV f:=by
 have hok:=Bf h0;have fi:=DY.1 h0;have hl:=RV fi.kok.nodup fi.kok.wi;rw [Pa] at hl;have h128:=hok.len
 have hp:∀b∈f.qa,b.params.length<=4096/\b.ins.length<=4096:=λb hb=>by
  obtain⟨s,t,e⟩:=List.append_of_mem hb;rw [e,Yo,Yh,Yc,Yc,Ya,dB,Yc,K2,Ya] at hl;omega
 refine⟨by omega,λb hb=> ?_⟩;obtain ⟨b1,b2⟩:=fi.block b hb;have he:=CN b2;have h1:=hp b hb;have h2:=Et hok hb;have h3:=he.many;refine ⟨by omega,by omega,by omega,by omega,λi hi=> ?_,λe hem=> ?_⟩
 .have:=(QK (b1 i hi)).many;omega
 obtain⟨x1,x2,x3⟩:=he.edges e hem;obtain ⟨c,hc⟩:∃c,f.qa[e.block.toNat]? =some c:=⟨_,Yg (by omega)⟩;have h4:=(hp c (Ye hc)).1;unfold AI at x3;rw [hc] at x3;have x3:e.args.length=c.params.length:=x3;omega
theorem AcZ (l:List Am):∀x∈l.map AA,x.fits 2=true/\((∃ls,x= .agg ls)\/x.leaf=true):=λx hx=>by
 obtain⟨n,_,rfl⟩:=Yi.1 hx;exact ⟨rfl, .inl ⟨_,rfl⟩⟩
theorem Fp {nt:Nat}{Q:Exit->Fr->Af->Prop}{F:Fr}{c:Code}(go:Nat)(rest:List V):∀(L:List (Aa×Option A3)) (pre:List V) (R:Af),(∀x∈L,xl x.2=x.1.qb.to.map AA/\xOk 2 x.2)->VW prog nt c Q F (.cells go 40 (pre++((L.map λx=>An x.1).flatMap V.leaves++rest))::R)->VW prog nt c Q F (.cells go 40 (pre++((L.map λx=>cpV x.1 x.2).flatMap V.leaves++rest))::(BF (L.map (·.2))++R))
 | [],pre,R,_,h=>h
 | (b,o)::L,pre,R,ho,h=>by
  obtain⟨hx,hk⟩:=ho _ (List.mem_cons_self ..);have e:∀(a:List V) (l:List V),pre++(a++l++rest)=(pre++a)++(l++rest):=λa l=>by simp
  have h2:=Fp go rest L (pre++(An b).leaves) R (λ x hx=>ho x (List.mem_cons_of_mem _ hx)) (by rw [List.map_cons,Yh,e] at h;exact h)
  have hset:∀(x y:V),(pre++([Ad b.params,AF b.ins, .int b.qb.kind, .int b.qb.arg, .int b.qb.n,Ad b.qb.cases,x]++(L.map λx=>cpV x.1 x.2).flatMap V.leaves++rest)).set (pre.length+6) y=(pre++ [Ad b.params,AF b.ins, .int b.qb.kind, .int b.qb.arg, .int b.qb.n,Ad b.qb.cases,y])++((L.map λx=>cpV x.1 x.2).flatMap V.leaves++rest):=λx y=>by
   rw [Yv _ _ (by omega),Nat.add_sub_cancel_left];simp
  have hget:∀(x:V),(pre++([Ad b.params,AF b.ins, .int b.qb.kind, .int b.qb.arg, .int b.qb.n,Ad b.qb.cases,x]++(L.map λx=>cpV x.1 x.2).flatMap V.leaves++rest))[pre.length+6]? =some x:=λx=>by
   rw [Yk (by omega),Nat.add_sub_cancel_left];rfl
  rw [List.map_cons,Yh]
  cases o with
  | none=>
   have hto:b.qb.to= []:=by
    have hx:([]:List V)=b.qb.to.map AA:=hx;exact Yw.1 hx.symm
   refine B7 0 (pre.length+6) (v':= .sl 2 none []) J (hget V.nilSl) (V.le.nil 2) J ?_;show VW prog nt c Q F (.cells go 40 ((pre++([Ad b.params,AF b.ins, .int b.qb.kind, .int b.qb.arg, .int b.qb.n,Ad b.qb.cases,V.nilSl]++(L.map λx=>cpV x.1 x.2).flatMap V.leaves++rest)).set (pre.length+6) (.sl 2 none []))::(BF (L.map (·.2))++R));rw [hset]
   have e3:(An b).leaves= [Ad b.params,AF b.ins, .int b.qb.kind, .int b.qb.arg, .int b.qb.n,Ad b.qb.cases, .sl 2 none []]:=by
    show [_,_,_,_,_,_,AC b.qb.to]=_;rw [hto];rfl
   rw [<- e3];exact h2
  | some r=>
   obtain⟨q2,q3,q4⟩:=hk;have hx:r.xs=b.qb.to.map AA:=hx;refine E6 1 0 (pre.length+6) (sz:=2) (rest:=r.rest) (b.qb.to.map AA) J J (hget _) (by rw [hx]) (by rw [hx]) q2 q3 (AcZ _) ?_;show VW prog nt c Q F (.cells go 40 ((pre++([Ad b.params,AF b.ins, .int b.qb.kind, .int b.qb.arg, .int b.qb.n,Ad b.qb.cases,Av (some r)]++(L.map λx=>cpV x.1 x.2).flatMap V.leaves++rest)).set (pre.length+6) (.sl 2 none (b.qb.to.map AA)))::(BF (L.map (·.2))++R));rw [hset];exact h2
theorem IK (l:List Aa):∀x∈l.map An,x.fits 7=true/\((∃ls,x= .agg ls)\/x.leaf=true):=λx hx=>by
 obtain⟨n,_,rfl⟩:=Yi.1 hx;exact ⟨rfl, .inl ⟨_,rfl⟩⟩
theorem Aas (f:Ai){rows:List (Option A3)}(h:rows.length=f.qa.length):((Bq f).map (DW rows)).Sublist rows:=by
 have h1:((Bq f).map (DW rows)).Sublist ((List.range rows.length).map (DW rows)):=by
  unfold Bq;rw [h];exact (List.filter_sublist ..).map _
 have h2:(List.range rows.length).map (DW rows)=rows:=by
  apply List.ext_getElem
  .simp
  .intro i a b;simp [DW,Yg b]
 rw [h2] at h1;exact h1
def EM (f:Ai)(rows2:List (Option A3)):List (Aa×Option A3):=(Bq f).map λv=>(reB (atF f) (blk f v),DW rows2 v)
theorem Aat {f:Ai}(ho:Dx f.qa (AJ f.qa)){rows rows2:List (Option A3)}(hr:rows.length=f.qa.length)(h:T5 f rows rows2 (Bq f).length):∀x∈EM f rows2,xl x.2=x.1.qb.to.map AA/\xOk 2 x.2:=λx hx=>by
 obtain⟨v,hv,rfl⟩:=Yi.1 hx;have hvl:=ho.lt v ((DZ ho).1 hv);obtain ⟨b,hb⟩:∃b,f.qa[v]? =some b:=⟨_,Yg hvl⟩;obtain ⟨o,h1⟩:∃o,rows[v]? =some o:=⟨_,Yg (by omega)⟩;obtain ⟨o2,h2⟩:∃o2,rows2[v]? =some o2:=⟨_,Yg (by rw [h.len];omega)⟩;obtain ⟨a1,a2,a3⟩:=h.row v b o o2 hb h1 h2;rw [Yf,if_pos hv] at a3;have e1:DW rows2 v=o2:=by unfold DW;rw [h2];rfl
 have e2:blk f v=b:=by unfold blk;rw [hb];rfl
 dsimp only;rw [e1,e2];exact ⟨a3,a2⟩
theorem Qh {f:Ai}(ho:Dx f.qa (AJ f.qa))(rows2:List (Option A3)):(EM f rows2).map (λ x=>An x.1)=(Bp f).qa.map An:=by
 unfold EM;rw [D5 ho,Ym,Ym,Ym];rfl
theorem Aau {f:Ai}(ho:Dx f.qa (AJ f.qa)){rows rows2:List (Option A3)}(hr:rows.length=f.qa.length)(h:T5 f rows rows2 (Bq f).length):(Bq f).map (λ v=>cpV (blk f v) (DW rows v))=(EM f rows2).map λx=>cpV x.1 x.2:=by
 unfold EM;rw [Ym];refine List.map_congr_left λv hv=> ?_;have hvl:=ho.lt v ((DZ ho).1 hv);obtain ⟨b,hb⟩:∃b,f.qa[v]? =some b:=⟨_,Yg hvl⟩;obtain ⟨o,h1⟩:∃o,rows[v]? =some o:=⟨_,Yg (by omega)⟩;obtain ⟨o2,h2⟩:∃o2,rows2[v]? =some o2:=⟨_,Yg (by rw [h.len];omega)⟩;obtain ⟨a1,_,_⟩:=h.row v b o o2 hb h1 h2;have e1:DW rows2 v=o2:=by unfold DW;rw [h2];rfl
 have e3:DW rows v=o:=by unfold DW;rw [h1];rfl
 show cpV (blk f v) (DW rows v)=cpV (reB (atF f) (blk f v)) (DW rows2 v);rw [e1,e3];show V.agg [_,_,_,_,_,_,Av o]=V.agg [_,_,_,_,_,_,Av o2];rw [a1];rfl
theorem T7 (f:Ai)(rows2:List (Option A3)):(EM f rows2).map (·.2)=(Bq f).map (DW rows2):=by
 unfold EM;rw [Ym];rfl
theorem W7 (n:Nat):(Ys n (V.raw (.int .i64 0))).flatMap V.leaves=Ys n (V.int 0):=by
 induction n with
 | zero=>rfl
 | succ n ih=>rw [List.replicate_succ,Yh,ih];rfl
theorem T8 (l:List Int):(l.map V.int).flatMap V.leaves=l.map V.int:=by
 induction l with
 | nil=>rfl
 | cons a l ih=>rw [List.map_cons,Yh,ih];rfl
theorem Aav {l z:List Int}{k:Nat}{x:Int}(h:l.length=z.length)(hx:l[k]? =some x):((l.take k++z.drop k).map V.int).set k (V.int x)=(l.take (k+1)++z.drop (k+1)).map V.int:=by
 have hk:=(Yd.1 hx).1;obtain ⟨y,hy⟩:∃y,z[k]? =some y:=⟨_,Yg (by omega)⟩;rw [<- List.map_set,Yv _ _ (by rw [Yb];omega),Yb,Nat.min_eq_left (by omega),Nat.sub_self,Ag hy,List.set_cons_zero,AD hx,Yr];rfl
theorem W8 {l z:List Int}:(l.take 0++z.drop 0)=z:=by simp
theorem Aaw {l z:List Int}{k:Nat}(h:l.length=z.length)(hk:¬k<l.length):(l.take k++z.drop k)=l:=by
 rw [List.take_of_length_le (by omega),List.drop_of_length_le (by omega),List.append_nil]
theorem Aax {l z:List Int}{k:Nat}(h:l.length=z.length):(l.take k++z.drop k).length=z.length:=by
 rw [Yc,Yb,List.length_drop];omega
theorem W9 (l:List Int):∀x∈l.map V.int,x.fits 1=true/\((∃ls,x= .agg ls)\/x.leaf=true):=λx hx=>by
 obtain⟨n,_,rfl⟩:=Yi.1 hx;exact ⟨rfl, .inr rfl⟩
theorem Aay:AP prog 21 [.sl 1 none []] (.raw (.tuple #[])):=λm w us hu hw=>by
 obtain⟨u,us',rfl,⟨A,cap,hu1,_⟩,hu2⟩:=hu;have hu2:us'= []:=hu2;have hu1:u= .slice A 0 cap:=hu1;subst hu1 hu2;exact (Any.slices_Sort_int_none XS.lays A cap w).mono λe w' ⟨h1,h2⟩=>⟨_,[],m, .tuple #[],rfl,h1,rfl,by rw [h2];exact A2.refl hw⟩
theorem Ac0 {es:List Am}{j:Nat}{e:Am}(h:es[j]? =some e)(rest:List V):(Dw es++rest)[j*2+0]? =some (.int e.block):=by
 have hj:=(Yd.1 h).1;rw [Nat.add_zero,Yt (by rw [Gp];omega)];exact TZ h
theorem Ac1 {f:Ai}{to:List Am}{j:Nat}{e:Am}(h:to[j]? =some e)(rest:List V):(Dw (Fz f to j)++rest).set (j*2+0) (.int (gI (atF f) e.block))=Dw (Fz f to (j+1))++rest:=by
 have hj:=(Yd.1 h).1;rw [Nat.add_zero,List.set_append_left _ _ (by rw [Gp,L6];omega),T0 (Vy h)];exact congrArg (λ l=>Dw l++rest) (Aaq h)
theorem OO {rows:List (Option A3)}{v:Nat}(hv:v<rows.length)(r:A3)(es:List Am):(BF (rows.set v (Dr (some r) es))).Perm (.cells r.g 64 (Dw es++r.rest)::BF (rows.set v none)):=by
 have h:=Rz hv (Dr (some r) es)
 have e:Be 64 (Dr (some r) es)= [.cells r.g 64 (Dw es++r.rest)]:=by
  show [Own.cells r.g 64 ((es.map AA).flatMap V.leaves++r.rest)]=_;rw [KX]
 rw [e] at h;exact h
theorem Xa {rows:List (Option A3)}{v:Nat}{o:Option A3}{f:Ai}{to:List Am}(h:rows[v]? =some o)(hx:xl o=to.map AA):rows.set v (Dr o (Fz f to 0))=rows:=by
 rw [Aap,ON hx];apply List.ext_getElem?;intro i;rw [List.getElem?_set];split
 .rename_i e;subst e;rw [if_pos (Yd.1 h).1,h]
 .rfl
theorem Qi {f:Ai}{k:Int}(h0:0<=k)(h:k<f.qa.length):(atF f)[k.toNat]? =some (gI (atF f) k):=by
 have hl:k.toNat<(atF f).length:=by unfold atF Ju;rw [Ya,List.length_range];omega
 rw [gI,Yg hl];rfl
theorem Aaz (f:Ai):(atF f).length=f.qa.length:=by unfold atF Ju;rw [Ya,List.length_range]
theorem AeW {f:Ai}{k:Nat}(hk:k<f.qa.length):(atF f)[k]? =some (idxOf (λ x=>decide ((k:Int)=x)) (B9 f)):=by
 unfold atF Ju;rw [List.getElem?_map,List.getElem?_range hk];rfl
theorem L9 {b:Aa}{o o2:Option A3}(h:Av o2=Av o):cpV b o=cpV b o2:=by
 unfold cpV;rw [h]
theorem AaA {f:Ai}{rows:List (Option A3)}{i v:Nat}{b:Aa}{o o2 out:Option A3}{xs:List V}(hv:(Bq f)[i]? =some v)(hb:f.qa[v]? =some b)(ho:rows[v]? =some o)(hl:Av o2=Av o)(hx:xl out=((Bq f).take i).map λv=>cpV (blk f v) (DW rows v))(h:xs=xl out++ [cpV b o2]):xs=((Bq f).take (i+1)).map λv=>cpV (blk f v) (DW rows v):=by
 have e1:DW rows v=o:=by unfold DW;rw [ho];rfl
 have e2:blk f v=b:=by unfold blk;rw [hb];rfl
 rw [h,hx,AD hv,Yj,List.map_singleton,e1,e2,L9 hl]
theorem JY {o:Option A3}{l:List Am}{j:Nat}{e:Am}(hx:xl o=l.map AA)(h:l[j]? =some e):∃r,o=some r/\r.xs.length=l.length:=by
 cases o with
 | none=>
  have hx: []=l.map AA:=hx;have:l= []:=Yw.1 hx.symm;rw [this] at h
  cases h
 | some r=>
  have hx:r.xs=l.map AA:=hx;exact ⟨r,rfl,by rw [hx,Ya]⟩
theorem Ac2 {f:Ai}{out:Option A3}{L:List (Aa×Option A3)}(hne:L≠ [])(h:xl out=L.map λx=>cpV x.1 x.2):∃r,out=some r/\r.xs=L.map λx=>cpV x.1 x.2:=by
 cases out with
 | none=>
  have h: []=L.map λx=>cpV x.1 x.2:=h;exact absurd (Yw.1 h.symm) hne
 | some r=>exact⟨r,rfl,h⟩
theorem Xb (f:Ai){rows2:List (Option A3)}(h:rows2.length=f.qa.length):Drops (BF rows2) (BF ((EM f rows2).map (·.2))):=by
 rw [T7];exact Xd (Aas f h)
def T9 (f:Ai):V:=if Bu f=0 then .tup [Bs (Bp f),Ad (atF f), .int 0] else .tup [.agg zs31, .sl 1 none [], .int (Bu f)]
theorem AaB {f:Ai}(h0:Bu f≠0):AP prog 8 [Bs f] (.tup [Ad [], .int (Bu f)]):=by
 have hO:=VE f;rw [if_neg h0] at hO;refine Al (nt:=15) func8 J J J ?_;refine cd<|Zc<|Zc2 J J<|λ g1=>(ci J<|cb J<|cd<|Zc<|Zv 0 ty31 J J J<|Zc<|Zu2 (Zx1 [.tmp 7] J J en20 (hO) ⟨J,J⟩) ((V.le.refl _:V.le _ (.tup [Ad [], .int (Bu f)])))<|ca J<|Zc<|Zg2 J J<|Zc<|Zg2 J J<|ci J<|cb J<|cd<|ca J<|Zc<|Zx1 [.tmp 11] J J en21 (Aay)<|cn<|cd<|ca J<|ca J<|ci J<|cb J<|Zf1<|Zh1 J J (.cons (.tmp J)<|.cons (.tmp J)<|.nil) ?_);rfl
theorem Ac3 (f:Ai):AP prog 32 [Bs f] (T9 f):=by
 have hr:=T9.eq_def f;refine Al (nt:=89) func32 J J J ?_;refine cd<|Zc<|Zc2 J J<|λ g1=>(Zc<|Zb2 zr31 _ J J<|λ g2=>(ci J<|cb J<|cd<|Zc<|Zv 1 ty31 J J J ?_))
 by_cases h0:Bu f=0
 .
  rw [if_pos h0] at hr;have hok:=Bf h0;have ho:=Dj hok.pos hok.edges;have h128:=hok.len;have hrl:=Xq f;have hol:=EQ ho.nodup ho.lt;have hal:=Aaz f;have hre:=Ho ho;have hnl:(B9 f).length=(Bq f).length:=by rw [hre,Ya]
  refine Zc<|Zx1 [.tmp 16] J J en8 (RH h0)<|ca J<|Zc<|Zg2 J J<|Zc<|Zg2 J J<|ci J<|cb J<|Zb<|cd<|ca J<|cj J J J<|Zm1 J (λ h21=> ?_)<|λ h21=> ?_
  . exact absurd rfl h21
  refine co<|cd<|cf fa31_1 J<|cg 1 ty29 J J J<|Zc<|Zd2 (n:=f.qa.length) underlying29 J (by simp)<|λ hl26=>(Zc<|Dg (.raw<|.int .i64 0) (λ m=>J) J sl32 J J (by omega) (by omega)<|λ g27=>(cb J<|Zb<|cd<|ca J<|Zc<|A4 underlying32 J<|ca J<|cn<|Zs<|Zi2 (ι:=Nat) (λ k=>f.qa.length - k) (λ k=> [(1,some (.ptr g1 0)),(2,some (.ptr g2 0)),(5,some (Ad (B9 f))),(7,some (.raw (.slice (some ⟨g27,0,none⟩) f.qa.length f.qa.length))),(28,some (.raw (.slice (some ⟨g27,0,none⟩) f.qa.length f.qa.length))),(29,some (.int f.qa.length)),(30,some (.int k))]) (λ k=> [.cells g27 3 (((atF f).take k++(Ys f.qa.length 0).drop k).map V.int), .cells g2 31 zs31, .cells g1 31 [.int f.name,Ae f.qa]]) (λ k=>k<=f.qa.length) 0 (Yx _) cw (Drops.keepE (congrArg (Own.cells g27 3) (by rw [W8,List.map_replicate,Int.toNat_natCast];exact W7 _))<|Dk<|Dk<|Zt2 _) ?_));rintro k hk;change k<=f.qa.length at hk;refine cd<|cj J J J<|Zb<|Zn1 J (λ h31=> ?_)<|λ h31=> ?_
  .
   refine co<|Zb<|Zs<|cd<|ca J<|cb J<|Zd<|ca J<|ca J<|ca J<|ca J<|Zc<|Zx1 [.tmp 35, .tmp 36] J J en56 (JF (B9 f) none (k:Int))<|Zc<|Zu2 (Zr2 sl32 J J (by omega) (by omega) ⟨J,J⟩) ((V.le.of_eq (congrArg (V.ptr g27) (by omega)):V.le _ (.ptr g27 k)))<|Zc<|Zy 0 ty3 J J J J (Nat.ble_eq_true_of_le (by rw [Ya,Aax (by simp [hal])];simp;omega))<|Za<|Zb1<|Zi<|Zd<|cm J J<|ca J<|Za<|Zi ?_;exact ⟨k+1,(by (try simp only []);omega),(by omega),cw,(Drops.keepE (congrArg (Own.cells g27 3) (Aav (by simp [hal]) (AeW (by omega)))) (Dk (Dk (Zt2 _))))⟩
  have hkn:¬k<(atF f).length:=by omega
  rw [Aaw (l:=atF f) (z:=(Ys f.qa.length 0)) (by simp [hal]) hkn];refine Zt<|Ze1<|Ze1<|Zc1<|Zi<|D3 0 (q:=7) (rest:= []) ((atF f).map V.int) J J (by rw [T8,List.append_nil]) (by rw [Ya];exact hal) (Nat.le_refl _) (by simp only [maxLen];omega) (W9 _)<|cd<|Zc<|Zv 1 ty31 J J J<|Zc<|L0 [.tmp 40] [_,_] _ J J en54 (.refl _) (AeV<|VA h0) ?_;rintro r Sa ⟨rows,hR,rfl,rfl⟩;refine Zc<|Zb2 zr31 _ rfl rfl<|λ g9=>(Zc<|Zx 0 ty31 rfl rfl rfl rfl rfl<|cn<|cd<|Zc<|Zj fa31_0 rfl<|Zc<|Zu 2 ty3 rfl rfl rfl<|Zc<|Zf2 [0] [.tmp 43] st31 rfl rfl rfl rfl<|Zc<|Zb2 zr31 _ rfl rfl<|λ g10=>(Zc<|Zx 0 ty31 rfl rfl rfl rfl rfl<|cn<|Zb<|cd<|Zc<|Zl rfl<|Zc<|Zd2 (n:=(B9 f).length) underlying32 rfl (by simp)<|λ hl46=>(Zc<|Zl rfl<|cn<|Zs<|Zi2 (ι:=Nat×List (Option A3)×Option A3) (λ (i,rows2,out)=>(B9 f).length - i) (λ (i,rows2,out)=> [(1,some (.ptr g1 0)),(2,some (.ptr g2 0)),(7,some (Ad (atF f))),(9,some (.ptr g9 0)),(10,some (.ptr g10 0)),(45,some (Ad (B9 f))),(46,some (.int (B9 f).length)),(47,some (.int i))]) (λ (i,rows2,out)=> .cells g10 31 [.int f.name,Av out]:: .cells g9 31 [.int f.name, .sl 7 none (cpL f.qa rows)]:: .cells g2 31 zs31:: .cells g1 31 [.int f.name,Ae f.qa]::(Be 40 out++BF rows2)) (λ (i,rows2,out)=>i<=(Bq f).length/\T5 f rows rows2 i/\xl out=((Bq f).take i).map (λ v=>cpV (blk f v)<|DW rows v)/\xOk 7 out) (0,rows,none) ⟨Yx _,T6 hR,rfl,trivial⟩ ⟨rfl,rfl,rfl,rfl,rfl,rfl,rfl,rfl,trivial⟩ (Dk<|Dk<|Dk<|Dk<|Zt2 _) ?_)));rintro ⟨i,rows2,out⟩ hA;change i<=(Bq f).length/\T5 f rows rows2 i/\xl out=((Bq f).take i).map (λ v=>cpV (blk f v) (DW rows v))/\xOk 7 out at hA;obtain ⟨hi,hP,hxo,hoo⟩:=hA;refine cd<|cj J J J<|Zb<|Zn1 J (λ h48=> ?_)<|λ h48=> ?_
  .
   obtain⟨v,hv⟩:=Ab (Bq f) i (by omega);have hvo:=(DZ ho).1 (Ye hv);have hvl:=ho.lt v hvo;obtain ⟨b,hb⟩:=Ab f.qa v (by omega);have hRl:=hR.len;obtain ⟨o,hro⟩:=Ab rows v (by omega);have hPl:=hP.len;obtain ⟨o2,h2⟩:=Ab rows2 v (by omega);obtain ⟨hlf,hok2,hx2⟩:=hP.row v b o o2 hb hro h2;rw [if_neg (Aar hv)] at hx2;have hvr:v<rows2.length:=(Yd.1 h2).1;have hte:=Et hok (Ye hb);have hxl:(xl out).length=i:=by rw [hxo,Ya,Yb];omega
   have hlx:(xl o2).length=b.qb.to.length:=by rw [hx2,Ya]
   refine co<|Zb<|Zs<|cd<|Zc<|Zz (el:=V.int (v:Int)) sl32 J J (by omega) (by rw [hre];exact Bn (by rw [Int.toNat_natCast,List.getElem?_map,hv];rfl))<|λ a49=> ?_;refine Zc<|Zz1 ty3 J J<|cb J<|cd<|cf fa31_1 J<|cg 1 ty29 J J J<|ca J<|Zc<|Zz (el:=cpV b o2) sl29 J J (by omega) (by rw [<- L9 hlf];exact Vz hb hro)<|λ a54=>(Zc<|Za2 ty40 J J<|Zc<|Zb2 zr40 _ J J<|λ g13=>(Zc<|Zx 0 ty40 J J J J J<|cn<|Zb<|cd<|cf fa40_2 J<|cf fa38_4 J<|Zc<|Zu2 (Zu 0 ty36 J J J ⟨J,J⟩) ((V.le.of_eq (IP o2):V.le _ (.raw<|.slice (xA o2) (xl o2).length<|Ua o2)))<|Zc<|A4 underlying36 J<|ca J<|Za<|Zi ?_));have hs0:=Xa (f:=f) h2 hx2;rw [hlx];refine A5 (S':= .cells g13 40 [Ad b.params,AF b.ins, .int b.qb.kind, .int b.qb.arg, .int b.qb.n,Ad b.qb.cases,Av o2]:: .cells g10 31 [.int f.name,Av out]:: .cells g9 31 [.int f.name, .sl 7 none (cpL f.qa rows)]:: .cells g2 31 zs31:: .cells g1 31 [.int f.name,Ae f.qa]::(Be 40 out++BF (rows2.set v<|Dr o2<|Fz f b.qb.to 0))) (by rw [hs0];exact List.Perm.refl _)<|Zs<|Zi2 (ι:=Nat) (λ j=>b.qb.to.length - j) (λ j=> [(1,some (.ptr g1 0)),(2,some (.ptr g2 0)),(7,some (Ad (atF f))),(9,some (.ptr g9 0)),(10,some (.ptr g10 0)),(45,some (Ad (B9 f))),(46,some (.int (B9 f).length)),(47,some (.int i)),(13,some (.ptr g13 0)),(59,some (.int b.qb.to.length)),(60,some (.int j))]) (λ j=> .cells g13 40 [Ad b.params,AF b.ins, .int b.qb.kind, .int b.qb.arg, .int b.qb.n,Ad b.qb.cases,Av o2]:: .cells g10 31 [.int f.name,Av out]:: .cells g9 31 [.int f.name, .sl 7 none (cpL f.qa rows)]:: .cells g2 31 zs31:: .cells g1 31 [.int f.name,Ae f.qa]::(Be 40 out++BF (rows2.set v<|Dr o2<|Fz f b.qb.to j))) (λ j=>j<=b.qb.to.length) 0 (Yx _) cy (Dk<|Dk<|Dk<|Dk<|Dk<|Zt2 _) ?_;rintro j hj;change j<=b.qb.to.length at hj;refine cd<|cj J J J<|Zb<|Zn1 J (λ h61=> ?_)<|λ h61=> ?_
   .
    obtain⟨e,he⟩:=Ab b.qb.to j h61;have hmx:=Vy (f:=f) he;obtain ⟨r,rfl,hrl⟩:=JY hx2 he;obtain ⟨hE1,hE2⟩:=hok.edges b (Ye hb) e (Ye he);refine A5 (S':= .cells r.g 64 (Dw (Fz f b.qb.to j)++r.rest):: .cells g13 40 [Ad b.params,AF b.ins, .int b.qb.kind, .int b.qb.arg, .int b.qb.n,Ad b.qb.cases,Av (some r)]:: .cells g10 31 [.int f.name,Av out]:: .cells g9 31 [.int f.name, .sl 7 none (cpL f.qa rows)]:: .cells g2 31 zs31:: .cells g1 31 [.int f.name,Ae f.qa]::((Be 40 out++BF (rows2.set v none)))) (FS [.cells g13 40 [Ad b.params,AF b.ins, .int b.qb.kind, .int b.qb.arg, .int b.qb.n,Ad b.qb.cases,Av (some r)], .cells g10 31 [.int f.name,Av out], .cells g9 31 [.int f.name, .sl 7 none (cpL f.qa rows)], .cells g2 31 zs31, .cells g1 31 [.int f.name,Ae f.qa]]<|FS (Be 40 out)<|OO hvr r<|Fz f b.qb.to j)<|co<|Zb<|Zs<|cd<|ca J<|cb J<|Ap (G:=Unit) [([],[13],[]),([0],[63],[]),([1,0],[64],[]),([],[14],[]),([],[7],[]),([],[13],[]),([5],[68],[]),([6,5],[69],[]),([],[14],[]),([8,7,6,5],[70,71],[]),([9,8,7,6,5],[72],[]),([10,9,8,7,6,5],[73],[]),([11,10,9,8,7,6,5,4],[67,74],[]),([12,11,10,9,8,7,6,5,4],[75],[]),(dn 14,[65,66],[]),(dn 15,[77],[]),(dn 16,[78,76],[])] [16] (DH _ 0<|λ _=> .cells r.g 64<|(Dw (Fz f b.qb.to j)++r.rest).set (j*2+0)<|.int<|gI (atF f) e.block) [] [63,64,65,66,67,68,69,70,71,72,73,74,75,76,77,78] J VT.mix<|Zp (Zm _) (Zo J J ⟨(λ γ=>Zf (λ _ h13=>Ze (Zn J (Zj fa40_2 h13 z0)))),trivial⟩)<|Zp (Zm _) (Zo J J ⟨(λ γ=>Zw 0 0 J (λ _ h63=>Ze (Zn J (Zj fa38_4 h63 z0)))),trivial⟩)<|Zp (Zm _) (Zo J J ⟨(λ γ=>Zw 1 0 J (λ _ h64=>Ze (Zn J (Zu 1 ty36 h64 J J z0)))),trivial⟩)<|Zp (Zm _) (Zo J J ⟨(λ γ=>Zf (λ _ h14=>Ze (Zn J (Zl h14 z0)))),trivial⟩)<|Zp (Zm _) (Zo J J ⟨(λ γ=>Zf (λ _ h7=>Ze (Zn J (Zl h7 z0)))),trivial⟩)<|Zp (Zm _) (Zo J J ⟨(λ γ=>Zf (λ _ h13=>Ze (Zn J (Zj fa40_2 h13 z0)))),trivial⟩)<|Zp (Zm _) (Zo J J ⟨(λ γ=>Zw 5 0 J (λ _ h68=>Ze (Zn J (Zj fa38_4 h68 z0)))),trivial⟩)<|Zp (Zm _) (Zo J J ⟨(λ γ=>Zw 6 0 J (λ _ h69=>Ze (Zn J (Zu 1 ty36 h69 J J z0)))),trivial⟩)<|Zp (Zm _) (Zo J J ⟨(λ γ=>Zf (λ _ h14=>Ze (Zn J (Zl h14 z0)))),trivial⟩)<|Zp (Zm _) (Zo J J ⟨(λ γ=>Zw 7 1 J (λ _ h70=>Zw 8 0 J (λ _ h71=>Ze (Zn J (Zu2 (Zr2 sl36 h70 h71 (by omega) (by omega) z0) ((V.le.of_eq (congrArg (V.ptr r.g) (by omega)):V.le _ (.ptr r.g (j*2)))) z0))))),trivial⟩)<|Zp (Zm _) (Zo J J ⟨(λ γ=>Zw 9 0 J (λ _ h72=>Ze (Zn J (Zj fa64_0 h72 z0)))),trivial⟩)<|Zp (Zm _) (Zo J J ⟨(λ γ=>Zw 10 0 J (λ _ h73=>Ze (Zn J (Zu 0 ty3 h73 J (Ac0 hmx _) z0)))),trivial⟩)<|Zp (Zb3 _) (Zo J J ⟨(λ γ=>Zw 4 7 J (λ _ h67=>Zw 11 0 J (λ _ h74=>Ze (Zn J (Zz (el:=V.int (gI (atF f) e.block)) sl32 h67 h74 (by omega) (Bn (Qi (by omega) hE2)) (λ a75=>⟨⟨_,J⟩,J⟩)))))),trivial⟩)<|Zp (Zm _) (Zo J J ⟨(λ γ=>Zw 12 0 J (λ _ h75=>Ze (Zc3 h75 (λ a_75 e75=>Zn J (Zz1 ty3 e75 J z0))))),trivial⟩)<|Zp (Zm _) (Zo J J ⟨(λ γ=>Zw 2 11 J (λ _ h65=>Zw 3 10 J (λ _ h66=>Ze (Zn J (Zu2 (Zr2 sl36 h65 h66 (by omega) (by omega) z0) ((V.le.of_eq (congrArg (V.ptr r.g) (by omega)):V.le _ (.ptr r.g (j*2)))) z0))))),trivial⟩)<|Zp (Zm _) (Zo J J ⟨(λ γ=>Zw 14 0 J (λ _ h77=>Ze (Zn J (Zj fa64_0 h77 z0)))),trivial⟩)<|Zp Za3 (Zn2 J<|λ γ=>Zw 15 0 J<|λ _ h78=>Zw 13 2 J<|λ _ h76=>Ze<|Zn J<|Zy 0 ty3 h78 h76 J J (Nat.ble_eq_true_of_le (by rw [Yc,Gp,L6];omega)) ⟨default,trivial,J⟩)<|Ak<|λ γ=>Ze<|Zb1<|Zi<|A5 (S':= .cells g13 40 [Ad b.params,AF b.ins, .int b.qb.kind, .int b.qb.arg, .int b.qb.n,Ad b.qb.cases,Av (some r)]:: .cells g10 31 [.int f.name,Av out]:: .cells g9 31 [.int f.name, .sl 7 none (cpL f.qa rows)]:: .cells g2 31 zs31:: .cells g1 31 [.int f.name,Ae f.qa]::(Be 40 out++BF (rows2.set v<|Dr (some r)<|Fz f b.qb.to (j+1)))) (by rw [Ac1 he];exact(FS [.cells g13 40 [Ad b.params,AF b.ins, .int b.qb.kind, .int b.qb.arg, .int b.qb.n,Ad b.qb.cases,Av (some r)], .cells g10 31 [.int f.name,Av out], .cells g9 31 [.int f.name, .sl 7 none (cpL f.qa rows)], .cells g2 31 zs31, .cells g1 31 [.int f.name,Ae f.qa]]<|FS (Be 40 out)<|OO hvr r<|Fz f b.qb.to (j+1)).symm)<|Zd<|cm J J<|ca J<|Za<|Zi ?_;exact ⟨j+1,(by (try simp only []);omega),(by omega),cy,(Dk (Dk (Dk (Dk (Dk (Zt2 _))))))⟩
   have hje:j=b.qb.to.length:=by omega
   subst hje;refine Zt<|Ze1<|Ze1<|Zc1<|Zi<|Zd<|cf fa31_1 J<|cg 1 ty29 J J J<|Zc<|Zv 0 ty40 J J J<|Zc<|Zk3 [.tmp 82] sl29 J J J J (Qe b o2)<|Zc<|Es (o:=out) ([.cells g13 40 [Ad b.params,AF b.ins, .int b.qb.kind, .int b.qb.arg, .int b.qb.n,Ad b.qb.cases,Av o2], .cells g10 31 [.int f.name,Av out], .cells g9 31 [.int f.name, .sl 7 none (cpL f.qa rows)], .cells g2 31 zs31, .cells g1 31 [.int f.name,Ae f.qa]]++BF (rows2.set v<|Dr o2<|Fz f b.qb.to b.qb.to.length)) (λ o'=> .cells g13 40 [Ad b.params,AF b.ins, .int b.qb.kind, .int b.qb.arg, .int b.qb.n,Ad b.qb.cases,Av o2]:: .cells g10 31 [.int f.name,Av out]:: .cells g9 31 [.int f.name, .sl 7 none (cpL f.qa rows)]:: .cells g2 31 zs31:: .cells g1 31 [.int f.name,Ae f.qa]::(Be 40 o'++BF (rows2.set v<|Dr o2<|Fz f b.qb.to b.qb.to.length))) sl29 (by decide) J J (HS [.cells g13 40 [Ad b.params,AF b.ins, .int b.qb.kind, .int b.qb.arg, .int b.qb.n,Ad b.qb.cases,Av o2], .cells g10 31 [.int f.name,Av out], .cells g9 31 [.int f.name, .sl 7 none (cpL f.qa rows)], .cells g2 31 zs31, .cells g1 31 [.int f.name,Ae f.qa]]) (λ o'=>(HS [.cells g13 40 [Ad b.params,AF b.ins, .int b.qb.kind, .int b.qb.arg, .int b.qb.n,Ad b.qb.cases,Av o2], .cells g10 31 [.int f.name,Av out], .cells g9 31 [.int f.name, .sl 7 none (cpL f.qa rows)], .cells g2 31 zs31, .cells g1 31 [.int f.name,Ae f.qa]]).symm) hoo (Agf hxo) (λ _=>Yp _ _) (by rw [hxl,Yl];omega) (AcY b o2)<|λ o84 e84_1 e84_2 e84_3=>(cf fa31_1 J<|Zc<|Zy 1 ty29 J J (DV _) J J<|Za<|Zb1<|Zi<|Zd<|cm J J<|ca J<|Za<|Zi ?_);exact ⟨(i+1,rows2.set v (Dr o2 (Fz f b.qb.to b.qb.to.length)),o84),(by (try simp only []);omega),⟨by omega,W6 hP hv hb h2 hx2,AaA hv hb hro hlf hxo e84_1,e84_2⟩,⟨rfl,rfl,rfl,rfl,rfl,rfl,rfl,rfl,trivial⟩,(Drops.drop (Dk (Dk (Dk (Dk (Zt2 _))))))⟩
  have hie:i=(Bq f).length:=by omega
  subst hie;rw [Yf,Aau ho hR.len hP] at hxo;have hrn:0<(Bq f).length:=by rw [<- hnl,hrl];exact(Yd.1 ho.zero).1
  have hne:(EM f rows2)≠ []:=λe=>by have h9:=congrArg List.length e;unfold EM at h9;rw [Ya,Yq] at h9;omega
  obtain⟨r,rfl,hrx⟩:=Ac2 (f:=f) hne hxo;obtain ⟨c1,c2,c3⟩:=hoo;refine Zt<|Ze1<|Ze1<|Zc1<|Zi<|CS (S':= .cells r.g 40 ([]++(((EM f rows2).map λx=>cpV x.1 x.2).flatMap V.leaves++r.rest))::(BF ((EM f rows2).map (·.2))++ [.cells g10 31 [.int f.name,Av (some r)], .cells g2 31 zs31])) (Drops.trans (.keep<|.drop<|.keep<|.drop<|.keep<|Xb f<|hP.len.trans hR.len)<|.of_perm ?_) ?_
  . rw [<- hrx];exact List.perm_append_comm (l₁:= [_,_])
  refine Fp r.g r.rest (EM f rows2) [] [.cells g10 31 [.int f.name,Av (some r)], .cells g2 31 zs31] (Aat ho hR.len hP) ?_;rw [Qh ho];refine E6 0 0 1 (sz:=7) (rest:=r.rest) ((Bp f).qa.map An) J J J (List.nil_append _) (by rw [Ya,Pc,hnl,hrx];unfold EM;rw [Ya,Ya]) c1 c2 (IK _) ?_;show VW prog _ _ _ _ [.cells g10 31 [.int f.name,Ae (Bp f).qa], .cells g2 31 zs31];refine cd<|Zc<|Zv 0 ty31 J J J<|ca J<|Zc<|Zx 1 ty31 J J J J J<|ci J<|cb J<|Zf1<|Zh1 J J (.cons (.agg (i:=1) ty31 J J J)<|.cons (.tmp J)<|.cons (.tmp J)<|.nil) ?_;rw [hr];rfl
 rw [if_neg h0] at hr;refine Zc<|Zx1 [.tmp 16] J J en8 (AaB h0)<|ca J<|Zc<|Zg2 J J<|Zc<|Zg2 J J<|ci J<|cb J<|Zb<|cd<|ca J<|cj J J J<|Zm1 J (λ h21=> ?_)<|λ h21=> ?_
 .
  refine cd<|Zc<|Zf2 [] [] st31 J J J J<|ca J<|Zc<|Zx 0 ty31 J J J J J<|Zc<|Zu2 (Zk J ⟨J,J⟩) ((V.le.nil 1))<|cb J<|Zf1<|Zd1<|Zh1 J J (.cons (.agg (i:=0) ty31 J J J)<|.cons (.tmp J)<|.cons (.tmp J)<|.nil) ?_;rw [hr];rfl
 exact absurd h21 h0
theorem AaC {f:Ai}(h:Bu f=0):AP prog 32 [Bs f] (.tup [Bs (Bp f),Ad (atF f), .int 0]):=by
 have h1:=Ac3 f
 rwa [T9,if_pos h] at h1
end Go.Proofs.YthlflmmnankhhaaGreat.X26
end
