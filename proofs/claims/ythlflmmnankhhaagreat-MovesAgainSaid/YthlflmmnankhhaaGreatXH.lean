import Derived.Test.YthlflmmnankhhaaGreatXA
set_option maxRecDepth 100000
set_option maxHeartbeats 16000000
open Go.VL.Drops renaming keep → Dk
set_option linter.all false
open List renaming append_assoc → Ya, length_append → Yb, length_map → Yc, mem_of_getElem? → Yd, drop_length → Ye, perm_append_comm → Yf, getElem?_eq_some_iff → Yg, getElem?_drop → Yh, getElem?_zip_eq_some → Yi
open Nat renaming zero_le → Yj
section
namespace Go.Proofs.YthlflmmnankhhaaGreat.X30
open Go.VL Go.SM Go.Proofs.YthlflmmnankhhaaGreat XS X1 X2 X3 X4 X5 X6 X7 X8 X9 X10 X12 X13 X20 X25 X26 VT Tryz
def jV (x:Nat×Am):V:=An (GS x.2)
theorem Aeu {bs:List Aa}{rows:List (Option A3)}{X:Cut}{xs:List V}(h:xs=cpL bs rows++X.map jV):∀x∈xs,x.leaves.length=7:=λx hx=>by
 rw [h] at hx;rcases List.mem_append.1 hx with hx | hx
 .exact Aek rfl x hx
 .obtain ⟨y,_,rfl⟩:=List.mem_map.1 hx;rfl
theorem AdY {bs:List Aa}{rows:List (Option A3)}{X:Cut}{xs:List V}{k:Nat}{b:Aa}{o o2:Option A3}(h:xs=cpL bs rows++X.map jV)(hb:bs[k]? =some b)(ho:rows[k]? =some o)(hl:Av o2=Av o):xs[k]? =some (cpV b o2):=by
 have h1:=Vz hb ho;rw [h,List.getElem?_append_left (Yg.1 h1).1,h1,L9 hl]
theorem Ach {xs:List V}{k:Nat}{b:Aa}{o:Option A3}(rest:List V)(h7:∀x∈xs,x.leaves.length=7)(h:xs[k]? =some (cpV b o)):(xs.flatMap V.leaves++rest)[k*7+2+4]? =some (Av o):=by
 have h1:=E3 (rest:=rest) h7 h;have h2:(((xs.flatMap V.leaves++rest).drop (k*7)).take 7)[6]? =some (Av o):=by rw [h1];rfl
 rw [List.getElem?_take_of_lt (by omega),Yh] at h2;exact h2
theorem Qc {dn to:List Am}{i:Nat}{e:Am}(he:to[i]? =some e):dn++to.drop i=(dn++ [e])++to.drop (i+1):=by
 rw [Ag he,Ya];rfl
theorem AdZ {dn to:List Am}{i:Nat}{e:Am}(hd:dn.length=i)(he:to[i]? =some e):(dn++to.drop i)[i]? =some e:=by
 rw [List.getElem?_append_right (by omega),hd,Nat.sub_self,Yh,Nat.add_zero];exact he
theorem Ad0 {dn to:List Am}{i:Nat}{e x:Am}(hd:dn.length=i)(he:to[i]? =some e):((dn++to.drop i).map AA).set i (AA x)=((dn++ [x])++to.drop (i+1)).map AA:=by
 rw [<- List.map_set,List.set_append_right _ _ (by omega),hd,Nat.sub_self,Ag he,List.set_cons_zero,Ya];rfl
theorem KH {rows:List (Option A3)}{v:Nat}(hv:v<rows.length)(r:A3)(es:List Am):(BF (rows.set v (Dr (some r) es))).Perm (.cells r.g 64 ((es.map AA).flatMap V.leaves++r.rest)::BF (rows.set v none)):=Rz hv (Dr (some r) es)
theorem Y0 {rows:List (Option A3)}{v:Nat}(hv:v<rows.length)(r:A3){dn to:List Am}{i:Nat}{e x:Am}(hd:dn.length=i)(he:to[i]? =some e):(.cells r.g 64 ((((dn++to.drop i).map AA).set i (AA x)).flatMap V.leaves++r.rest)::BF (rows.set v none)).Perm (BF (rows.set v (Dr (some r) ((dn++ [x])++to.drop (i+1))))):=by
 rw [Ad0 hd he];exact (KH hv r _).symm
theorem Va {α:Type}{L l:List α}{x:α}{k:Nat}(h:x::l=L.drop k):L[k]? =some x/\l=L.drop (k+1):=by
 have h1:(L.drop k)[0]? =some x:=by rw [<- h];rfl
 rw [Yh,Nat.add_zero] at h1;rw [Ag h1] at h;injection h with _ h;exact ⟨h1,h⟩
theorem AfL {bs:List Aa}{b:Aa}{e:Am}(h:(b.qb.to.length:Int)<2):¬B4 bs b e=true:=by
 unfold B4;rw [decide_eq_true h];simp
theorem AfM {bs:List Aa}{b:Aa}{e:Am}{P:List Int}(hP:(CV bs)[e.block.toNat]? =some P)(h:(P.length:Int)<2):¬B4 bs b e=true:=by
 unfold B4;rw [hP,Option.getD_some,decide_eq_true h];simp
theorem AfN {bs:List Aa}{b:Aa}{e:Am}{P:List Int}(hP:(CV bs)[e.block.toNat]? =some P)(h1:¬(b.qb.to.length:Int)<2)(h2:¬(P.length:Int)<2):B4 bs b e=true:=by
 unfold B4;rw [hP,Option.getD_some,decide_eq_false h1,decide_eq_false h2];rfl
def toS (f:Ai)(k v:Nat)(b:Aa):List Am:=if v<k then ((Cl f).1[v]?.getD default).qb.to else b.qb.to
structure Vb (f:Ai)(rows rows2:List (Option A3))(k:Nat):Prop where
 len:rows2.length=rows.length
 row:∀(v:Nat) (b:Aa) (o o2:Option A3),f.qa[v]? =some b->rows[v]? =some o->rows2[v]? =some o2->Av o2=Av o/\xOk 2 o2/\xl o2=(toS f k v b).map AA
theorem Vc {f:Ai}{rows:List (Option A3)}(h:E5 f.qa rows):Vb f rows rows 0:=⟨rfl,λv b o o2 hb ho h2=>by
 rw [ho] at h2;injection h2 with h2;subst h2;obtain ⟨h3,h4⟩:=h.row v b o hb ho;exact ⟨rfl,h4,by rw [toS,if_neg (by omega)];exact h3⟩⟩
theorem Y1 {f:Ai}{rows rows2:List (Option A3)}{k:Nat}{b:Aa}{o2:Option A3}{dn:List Am}(h:Vb f rows rows2 k)(hb:f.qa[k]? =some b)(h2:rows2[k]? =some o2)(hx:xl o2=b.qb.to.map AA)(hg:(Cl f).1[k]? =some (Ce b dn))(hl:dn.length=b.qb.to.length):Vb f rows (rows2.set k (Dr o2 dn)) (k+1):=by
 refine⟨by rw [List.length_set];exact h.len,λw c o p hc ho hp=> ?_⟩;rw [List.getElem?_set] at hp;split at hp
 .rename_i e;subst e;rw [hb] at hc;injection hc with hc;subst hc;split at hp
  .injection hp with hp;subst hp;obtain ⟨a1,a2,a3⟩:=h.row k b o o2 hb ho h2;have hl2:(xl o2).length=dn.length:=by rw [hx,Yc,hl]
   refine⟨(IN hl2).trans a1,L8 hx (by rw [hl]) a2,?_⟩;rw [Qg hl2,toS,if_pos (by omega),hg];rfl
  cases hp
 rename_i e;obtain ⟨a1,a2,a3⟩:=h.row w c o p hc ho hp;refine ⟨a1,a2,?_⟩;rw [a3];unfold toS
 by_cases hw:w<k
 .rw [if_pos hw,if_pos (by omega)]
 rw [if_neg hw,if_neg (by omega)]
theorem Ad1 {rows:List (Option A3)}{v:Nat}{o:Option A3}{to:List Am}(h:rows[v]? =some o)(hx:xl o=to.map AA):rows.set v (Dr o ([]++to.drop 0))=rows:=by
 rw [List.nil_append,List.drop_zero,ON hx];apply List.ext_getElem?;intro i;rw [List.getElem?_set];split
 .rename_i e;subst e;rw [if_pos (Yg.1 h).1,h]
 .rfl
def GI (f:Ai)(rows2:List (Option A3)):List (Aa×Option A3):=(Cl f).1.zip rows2
theorem HR (f:Ai):(Cl f).1.length=f.qa.length:=Qq ..
theorem Y4 {f:Ai}{v:Nat}{b:Aa}(hb:f.qa[v]? =some b):∃to,(Cl f).1[v]? =some (Ce b to):=by
 obtain⟨to,h,_⟩:=Qr (B4 f.qa) f.qa.length f.qa 0 [] v b hb;exact ⟨to,h⟩
theorem Y5 {f:Ai}{rows rows2:List (Option A3)}(hr:rows.length=f.qa.length)(h:Vb f rows rows2 f.qa.length):∀x∈GI f rows2,xl x.2=x.1.qb.to.map AA/\xOk 2 x.2:=λx hx=>by
 obtain⟨v,hv⟩:=List.getElem?_of_mem hx;unfold GI at hv;obtain ⟨c,o2⟩:=x;obtain ⟨h1,h2⟩:=Yi.1 hv;have hvl:=(Yg.1 h1).1;rw [HR] at hvl;obtain ⟨b,hb⟩:=Ab f.qa v (by omega);obtain ⟨o,ho⟩:=Ab rows v (by omega);obtain ⟨a1,a2,a3⟩:=h.row v b o o2 hb ho h2;rw [toS,if_pos hvl,h1] at a3;exact ⟨a3,a2⟩
theorem Y6 {f:Ai}{rows rows2:List (Option A3)}(hr:rows.length=f.qa.length)(h:Vb f rows rows2 f.qa.length):(GI f rows2).map (λ x=>cpV x.1 x.2)=cpL f.qa rows:=by
 unfold GI cpL;apply List.ext_getElem?;intro v;rw [List.getElem?_map,List.getElem?_zipWith]
 by_cases hv:v<f.qa.length
 .obtain ⟨b,hb⟩:=Ab f.qa v (by omega);obtain ⟨o,ho⟩:=Ab rows v (by omega);obtain ⟨o2,h2⟩:=Ab rows2 v (by rw [h.len];omega);obtain ⟨to,hg⟩:=Y4 hb;rw [hb,ho,(Yi (z:=(Ce b to,o2))).2 ⟨hg,h2⟩];show some (cpV (Ce b to) o2)=some (cpV b o);rw [L9 (h.row v b o o2 hb ho h2).1];rfl
 .have e1:((Cl f).1.zip rows2)[v]? =none:=List.getElem?_eq_none (by rw [List.length_zip,HR];omega);have e2:f.qa[v]? =none:=List.getElem?_eq_none (by omega);rw [e1,e2];rfl
theorem Tx {f:Ai}{rows2:List (Option A3)}(h:rows2.length=f.qa.length):(GI f rows2).map (·.2)=rows2:=List.map_snd_zip (by rw [HR];omega)
theorem Ou {f:Ai}{rows2:List (Option A3)}(h:rows2.length=f.qa.length):(GI f rows2).map (λ x=>An x.1)=(Cl f).1.map An:=by
 have:(GI f rows2).map (·.1)=(Cl f).1:=List.map_fst_zip (by rw [HR];omega);rw [<- this,List.map_map];rfl
theorem Vd {f:Ai}(rest:List V): []++(((Cl f).1.map An).flatMap V.leaves++(((Cl f).2.map jV).flatMap V.leaves++rest))=((Ac f).qa.map An).flatMap V.leaves++rest:=by
 unfold Ac;dsimp only;rw [List.nil_append,List.map_append,List.flatMap_append,Ya,List.map_map];rfl
def QZ (f:Ai):V:=if Bu f≠0 then .tup [.agg zs31, .int (Bu f)] else if 128<((Ac f).qa.length:Int) then .tup [.agg zs31, .int 2] else .tup [Bs (Ac f), .int 0]
theorem Ad2 (e:Am):∀y∈ [An (GS e)],y.flat=true:=λy hy=>by
 rw [List.mem_singleton.1 hy];rfl
theorem Ad3 {α:Type}{o:Option α}(h:o≠none):∃r,o=some r:=by
 cases o with
 | none=>exact absurd rfl h
 | some r=>exact⟨r,rfl⟩
theorem Ws (f:Ai):AP prog 52 [Bs f] (QZ f):=by
 have hr:=QZ.eq_def f;have hPr:=VD f;refine Al (nt:=78) func52 J J J ?_;refine cd<|Zc<|Zc2 J J<|λ g1=>(Zc<|Zb2 zr31 _ J J<|λ g2=>(cb J<|cd<|Zc<|Zv 1 ty31 J J J ?_))
 by_cases h0:Bu f=0
 .
  rw [if_neg (λ h=>h h0)] at hr;rw [if_pos h0,h0] at hPr;have hok:=Bf h0;have hpos:=hok.pos;have h128:=hok.len;have hpl:=MX f.qa;have hcl:=(FA f).len;refine Zc<|Zx1 [.tmp 12] J J en34 (hPr)<|ca J<|Zc<|Zg2 J J<|Zc<|Zg2 J J<|ci J<|cb J<|Zb<|cd<|ca J<|cj J J J<|Zm1 J (λ h17=> ?_)<|λ h17=> ?_
  . exact absurd rfl h17
  refine co<|cd<|Zc<|Zv 1 ty31 J J J<|Zc<|L0 [.tmp 20] [_,_] _ J J en54 (.refl _) (AcW<|VA h0) ?_;rintro r0 Sa ⟨rows,out,hR,hxu,huo,rfl,rfl⟩;refine Zc<|Zb2 zr31 _ J J<|λ g6=>(Zc<|Zx 0 ty31 J J J J J<|cn<|Zb<|cd<|cf fa31_1 J<|cg 2 ty29 J J J<|Zc<|Zd2 (n:=f.qa.length) underlying29 J (by simp)<|λ hl24=>(ca J<|Za<|Zi ?_));have hRl:=hR.len;obtain ⟨r,rfl⟩:∃r,out=some r:=by cases out with
  | none=>
   have h9:=congrArg List.length hxu;rw [JX hR] at h9;change 0=_ at h9;omega
  | some r=>exact⟨r,rfl⟩
  have hxu:r.xs=cpL f.qa rows:=hxu;refine A5 (S':= .cells r.g 40 (r.xs.flatMap V.leaves++r.rest):: .cells g6 31 [.int f.name,Av (some r)]:: .cells g2 31 zs31:: .cells g1 31 [.int f.name,Ae f.qa]::(BF rows)) (List.perm_middle (l₁:= [_,_,_]))<|Zs<|Zi2 (ι:=Nat×Cut×List (Option A3)×A3) (λ (k,X,rows2,r)=>f.qa.length - k) (λ (k,X,rows2,r)=> [(1,some (.ptr g1 0)),(2,some (.ptr g2 0)),(4,some (J1 (CV f.qa))),(6,some (.ptr g6 0)),(23,some (Ae f.qa)),(24,some (.int f.qa.length)),(25,some (.int k))]) (λ (k,X,rows2,r)=> .cells r.g 40 (r.xs.flatMap V.leaves++r.rest):: .cells g6 31 [.int f.name,Av (some r)]:: .cells g2 31 zs31:: .cells g1 31 [.int f.name,Ae f.qa]::(BF rows2)) (λ (k,X,rows2,r)=>k<=f.qa.length/\Vb f rows rows2 k/\(spB (B4 f.qa) f.qa.length k (f.qa.drop k) X).1=(Cl f).1.drop k/\(spB (B4 f.qa) f.qa.length k (f.qa.drop k) X).2=(Cl f).2/\r.xs=cpL f.qa rows++X.map jV/\xOk 7 (some r)/\X.length<=k*257) (0,[],rows,r) ⟨Yj _,Vc hR,rfl,rfl,by rw [hxu];simp,huo,Yj _⟩ cw (Dk<|Dk<|Dk<|Dk<|Zt2 _) ?_;rintro ⟨k,X,rows2,r⟩ hA;change k<=f.qa.length/\Vb f rows rows2 k/\(spB (B4 f.qa) f.qa.length k (f.qa.drop k) X).1=(Cl f).1.drop k/\(spB (B4 f.qa) f.qa.length k (f.qa.drop k) X).2=(Cl f).2/\r.xs=cpL f.qa rows++X.map jV/\xOk 7 (some r)/\X.length<=k*257 at hA;obtain ⟨hk,hI,hG,hX,hrx,hro2,hXl⟩:=hA;have hrl:r.xs.length=f.qa.length+X.length:=by rw [hrx,Yb,JX hR,Yc]
  refine cd<|cj J J J<|Zb<|Zn1 J (λ h26=> ?_)<|λ h26=> ?_
  .
   obtain⟨b,hb⟩:=Ab f.qa k (by omega);obtain ⟨o,hro⟩:=Ab rows k (by omega);have hIl:=hI.len;obtain ⟨o2,h2⟩:=Ab rows2 k (by omega);obtain ⟨hlf,hok2,hx2⟩:=hI.row k b o o2 hb hro h2;rw [toS,if_neg (by omega)] at hx2;have hkr:k<rows2.length:=(Yg.1 h2).1;have hte:=Et hok (Yd hb);have hlx:(xl o2).length=b.qb.to.length:=by rw [hx2,Yc]
   rw [Ag hb,spB] at hG hX;obtain ⟨hGk,hG2⟩:=Va hG;refine co<|Zb<|Zs<|cd<|ca J<|cb J<|cd<|cf fa31_1 J<|cg 1 ty29 J J J<|ca J<|Zc<|Zu2 (Zr2 sl29 J J (by omega) (by omega) ⟨J,J⟩) ((V.le.of_eq (congrArg (V.ptr r.g) (by omega)):V.le _ (.ptr r.g (k*7))))<|cf fa40_2 J<|cf fa38_4 J<|Zc<|Zu2 (Zu 0 ty36 J J (Ach _ (Aeu hrx)<|AdY hrx hb hro hlf) ⟨J,J⟩) ((V.le.of_eq (IP o2):V.le _ (.raw<|.slice (xA o2) (xl o2).length<|Ua o2)))<|cb J<|cd<|ca J<|Zc<|A4 underlying36 J<|ca J<|Za<|Zi ?_;rw [hlx];refine A5 (S':= .cells r.g 40 (r.xs.flatMap V.leaves++r.rest):: .cells g6 31 [.int f.name,Av (some r)]:: .cells g2 31 zs31:: .cells g1 31 [.int f.name,Ae f.qa]::(BF<|rows2.set k<|Dr o2 ([]++b.qb.to.drop 0))) (by rw [Ad1 h2 hx2])<|Zs<|Zi2 (ι:=Nat×List Am×Cut×A3) (λ (i,dn,X2,s)=>b.qb.to.length - i) (λ (i,dn,X2,s)=> [(1,some (.ptr g1 0)),(2,some (.ptr g2 0)),(4,some (J1 (CV f.qa))),(6,some (.ptr g6 0)),(23,some (Ae f.qa)),(24,some (.int f.qa.length)),(25,some (.int k)),(7,some (.int k)),(8,some (.raw (.slice (xA o2) b.qb.to.length (Ua o2)))),(35,some (.raw (.slice (xA o2) b.qb.to.length (Ua o2)))),(36,some (.int b.qb.to.length)),(37,some (.int i))]) (λ (i,dn,X2,s)=> .cells s.g 40 (s.xs.flatMap V.leaves++s.rest):: .cells g6 31 [.int f.name,Av (some s)]:: .cells g2 31 zs31:: .cells g1 31 [.int f.name,Ae f.qa]::(BF<|rows2.set k<|Dr o2 (dn++b.qb.to.drop i))) (λ (i,dn,X2,s)=>i<=b.qb.to.length/\dn.length=i/\dn++(spE (B4 f.qa b) f.qa.length k (b.qb.to.drop i) X2).1=(spE (B4 f.qa b) f.qa.length k b.qb.to X).1/\(spE (B4 f.qa b) f.qa.length k (b.qb.to.drop i) X2).2=(spE (B4 f.qa b) f.qa.length k b.qb.to X).2/\s.xs=cpL f.qa rows++X2.map jV/\xOk 7 (some s)/\X2.length<=k*257+i) (0,[],X,r) ⟨Yj _,rfl,rfl,rfl,hrx,hro2,hXl⟩ cx (Dk<|Dk<|Dk<|Dk<|Zt2 _) ?_;rintro ⟨i,dn,X2,s⟩ hB;change i<=b.qb.to.length/\dn.length=i/\dn++(spE (B4 f.qa b) f.qa.length k (b.qb.to.drop i) X2).1=(spE (B4 f.qa b) f.qa.length k b.qb.to X).1/\(spE (B4 f.qa b) f.qa.length k (b.qb.to.drop i) X2).2=(spE (B4 f.qa b) f.qa.length k b.qb.to X).2/\s.xs=cpL f.qa rows++X2.map jV/\xOk 7 (some s)/\X2.length<=k*257+i at hB;obtain ⟨hi,hdl,hD,hX3,hrs,hso,hX2l⟩:=hB;have hsl:s.xs.length=f.qa.length+X2.length:=by rw [hrs,Yb,JX hR,Yc]
   refine cd<|cj J J J<|Zb<|Zn1 J (λ h38=> ?_)<|λ h38=> ?_
   .
    obtain⟨e,he⟩:=Ab b.qb.to i (by omega);have hmg:=AdZ hdl he;obtain ⟨q,rfl,hql⟩:=JY hx2 he;obtain ⟨hE1,hE2⟩:=hok.edges b (Yd hb) e (Yd he);obtain ⟨P,hP⟩:=Ab (CV f.qa) e.block.toNat (by omega);rw [Ag he] at hD hX3;refine A5 (S':= .cells q.g 64 (((dn++b.qb.to.drop i).map AA).flatMap V.leaves++q.rest):: .cells s.g 40 (s.xs.flatMap V.leaves++s.rest):: .cells g6 31 [.int f.name,Av (some s)]:: .cells g2 31 zs31:: .cells g1 31 [.int f.name,Ae f.qa]::(BF<|rows2.set k none)) (FS [.cells s.g 40 (s.xs.flatMap V.leaves++s.rest), .cells g6 31 [.int f.name,Av (some s)], .cells g2 31 zs31, .cells g1 31 [.int f.name,Ae f.qa]]<|KH hkr q (dn++b.qb.to.drop i))<|co<|Zb<|Zs<|cd<|ca J<|Zc<|Zu2 (Zr2 sl36 J J (by omega) (by omega) ⟨J,J⟩) ((V.le.of_eq (congrArg (V.ptr q.g) (by omega)):V.le _ (.ptr q.g (i*2))))<|Zc<|Ze3 0 i ty64 J J J J (Fo J) (Aq AA hmg)<|Zc<|Zb2 zr64 _ J J<|λ g10=>(ci J<|Zc<|Zx 0 ty64 J J J J J<|cn<|Zb<|cd<|ca J<|Zc<|A4 underlying36 J<|ce J J J<|ca J<|Zj2 (q:=45) J (λ hq45=> ?_)<|λ hq45=> ?_)
    .
     have hc:=AfL (bs:=f.qa) (b:=b) (e:=e) (of_decide_eq_true hq45);refine Zk0 hq45<|Zk0 hq45<|Zk0 hq45<|Zk0 hq45<|Zk0 hq45<|Zk0 hq45<|Zk0 hq45<|Zc<|Zs1 J hq45 J<|cn<|Zp1 J J ?_;rw [spE,if_neg hc] at hD hX3;have hA2:=And.intro (show i+1<=b.qb.to.length by omega) (And.intro (show (dn++ [e]).length=i+1 by rw [Yb,hdl];rfl) (And.intro (show (dn++ [e])++(spE (B4 f.qa b) f.qa.length k (b.qb.to.drop (i+1)) (X2)).1=(spE (B4 f.qa b) f.qa.length k b.qb.to X).1 by rw [Ya];exact hD) (And.intro hX3 (And.intro hrs (And.intro hso (show (X2).length<=k*257+(i+1) by omega))))));refine A5 (S':= .cells g10 64 [.int e.block,Ad e.args]:: .cells s.g 40 (s.xs.flatMap V.leaves++s.rest):: .cells g6 31 [.int f.name,Av (some s)]:: .cells g2 31 zs31:: .cells g1 31 [.int f.name,Ae f.qa]::(BF<|rows2.set k<|Dr (some q) ((dn++ [e])++b.qb.to.drop (i+1)))) (by rw [<- Qc he];exact .cons _ (FS [.cells s.g 40 (s.xs.flatMap V.leaves++s.rest), .cells g6 31 [.int f.name,Av (some s)], .cells g2 31 zs31, .cells g1 31 [.int f.name,Ae f.qa]]<|KH hkr q (dn++b.qb.to.drop i)).symm)<|Zt<|Ze1<|Zc1<|Zi<|Zd<|cm J J<|ca J<|Za<|Zi ?_;exact ⟨(i+1,dn++ [e],X2,s),(by (try simp only []);omega),hA2,cx,(Drops.drop (Dk (Dk (Dk (Dk (Zt2 _))))))⟩
    have hx45:=of_decide_eq_false hq45;refine Zc (Zl J ?_)<|Zy0 hq45;refine Zc (Zj fa64_0 J ?_)<|Zy0 hq45;refine Zc (Zu 0 ty3 J J J ?_)<|Zy0 hq45;refine Zc (Zz (el:=Ad P) sl69 J J (by omega) (Aq _ hP)<|λ a49=> ?_)<|Zy0 hq45;refine Zc (Zz1 ty32 J J ?_)<|Zy0 hq45;refine Zc (Zd2 (n:=P.length) underlying32 J (by simp)<|λ hl51=> ?_)<|Zy0 hq45;refine Zc (Zj1 J J J ?_)<|Zy0 hq45;refine Zc<|Zt1 J hq45 J<|cn<|Zn1 J (λ h53=> ?_)<|λ h53=> ?_
    .
     have hc:=AfM (b:=b) hP h53;rw [spE,if_neg hc] at hD hX3;have hA2:=And.intro (show i+1<=b.qb.to.length by omega) (And.intro (show (dn++ [e]).length=i+1 by rw [Yb,hdl];rfl) (And.intro (show (dn++ [e])++(spE (B4 f.qa b) f.qa.length k (b.qb.to.drop (i+1)) (X2)).1=(spE (B4 f.qa b) f.qa.length k b.qb.to X).1 by rw [Ya];exact hD) (And.intro hX3 (And.intro hrs (And.intro hso (show (X2).length<=k*257+(i+1) by omega))))));refine A5 (S':= .cells g10 64 [.int e.block,Ad e.args]:: .cells s.g 40 (s.xs.flatMap V.leaves++s.rest):: .cells g6 31 [.int f.name,Av (some s)]:: .cells g2 31 zs31:: .cells g1 31 [.int f.name,Ae f.qa]::(BF<|rows2.set k<|Dr (some q) ((dn++ [e])++b.qb.to.drop (i+1)))) (by rw [<- Qc he];exact .cons _ (FS [.cells s.g 40 (s.xs.flatMap V.leaves++s.rest), .cells g6 31 [.int f.name,Av (some s)], .cells g2 31 zs31, .cells g1 31 [.int f.name,Ae f.qa]]<|KH hkr q (dn++b.qb.to.drop i)).symm)<|Zt<|Ze1<|Zc1<|Zi<|Zd<|cm J J<|ca J<|Za<|Zi ?_;exact ⟨(i+1,dn++ [e],X2,s),(by (try simp only []);omega),hA2,cx,(Drops.drop (Dk (Dk (Dk (Dk (Zt2 _))))))⟩
    have hc:=AfN hP hx45 h53;rw [spE,if_pos hc] at hD hX3;refine co<|cd<|ca J<|ca J<|cf fa31_1 J<|cg 3 ty29 J J J<|Zc<|A4 underlying29 J<|Zc<|Zu2 (Zf2 [0] [.tmp 58] st64 J J J J ⟨J,J⟩) ((by rw [hsl];exact V.le.agg ⟨V.le.refl _,rfl,V.le.nil 1,rfl,trivial⟩:V.le _ (AA (⟨((f.qa.length+X2.length:Nat):Int),[]⟩:Am))))<|Zc<|Zu2 (Zr2 sl36 J J (by omega) (by omega) ⟨J,J⟩) ((V.le.of_eq (congrArg (V.ptr q.g) (by omega)):V.le _ (.ptr q.g (i*2))))<|Zc<|Zg3 1 i ty64 J J J J J J (Fo J) (by rw [Yc,Yb,List.length_drop];omega)<|cn<|Zd<|cf fa31_1 J<|cg 3 ty29 J J J<|Zc<|Zv 0 ty64 J J J<|Zc<|Zk3 [.tmp 63] sl36 J J J J J<|Zc<|Zf2 [0,4] [.const (.int .i64 (1)), .tmp 64] st38 J J J J<|Zc<|Zu2 (Zf2 [2] [.tmp 65] st40 J J J J ⟨J,J⟩) ((by exact V.le.agg ⟨V.le.nil 1,rfl,V.le.nil 4,rfl,V.le.refl _,rfl,V.le.refl _,rfl,V.le.refl _,rfl,V.le.nil 1,rfl,V.le.refl _,rfl,trivial⟩:V.le _ (An<|GS e)))<|Zc<|Zk3 [.tmp 66] sl29 J J J J J<|Zc<|Es (o:=(some s)) (_) (λ o'=>Be 40 o'++_) sl29 (by decide) J J (List.perm_middle (l₁:= [_,_])) (λ _=> .refl _) hso (Aeu hrs) (λ h=>by cases h) (by show(s.xs.length+_)*_<=_;rw [hsl,List.length_singleton];omega) (Ad2 e)<|λ o68 e68_1 e68_2 e68_3=> ?_;obtain ⟨s3,rfl⟩:=Ad3 e68_3;refine cf fa31_1 J<|Zc<|Zy 3 ty29 J J (DV _) J J<|Za<|Zb1<|Zi ?_;have hrs3:s3.xs=cpL f.qa rows++(X2++ [(k,e)]).map jV:=by have h9:s3.xs=s.xs++ [An (GS e)]:=e68_1;rw [h9,hrs,List.map_append,Ya];rfl
    have hA2:=And.intro (show i+1<=b.qb.to.length by omega) (And.intro (show (dn++ [(⟨((f.qa.length+X2.length:Nat):Int),[]⟩:Am)]).length=i+1 by rw [Yb,hdl];rfl) (And.intro (show (dn++ [(⟨((f.qa.length+X2.length:Nat):Int),[]⟩:Am)])++(spE (B4 f.qa b) f.qa.length k (b.qb.to.drop (i+1)) (X2++ [(k,e)])).1=(spE (B4 f.qa b) f.qa.length k b.qb.to X).1 by rw [Ya];exact hD) (And.intro hX3 (And.intro hrs3 (And.intro e68_2 (show (X2++ [(k,e)]).length<=k*257+(i+1) by rw [Yb,List.length_singleton];omega))))));refine A5 (S':= .cells s3.g 40 (s3.xs.flatMap V.leaves++s3.rest):: .cells g10 64 [.int e.block,Ad e.args]:: .cells g6 31 [.int f.name,Av (some s3)]:: .cells g2 31 zs31:: .cells g1 31 [.int f.name,Ae f.qa]::(BF<|rows2.set k<|Dr (some q) ((dn++ [(⟨((f.qa.length+X2.length:Nat):Int),[]⟩:Am)])++b.qb.to.drop (i+1)))) (.cons _<|.cons _ (FS [.cells g6 31 [.int f.name,Av (some s3)], .cells g2 31 zs31, .cells g1 31 [.int f.name,Ae f.qa]] (Y0 hkr q hdl he (x:=(⟨((f.qa.length+X2.length:Nat):Int),[]⟩:Am))).symm).symm)<|Zd<|cm J J<|ca J<|Za<|Zi ?_;exact ⟨(i+1,dn++ [(⟨((f.qa.length+X2.length:Nat):Int),[]⟩:Am)],X2++ [(k,e)],s3),(by (try simp only []);omega),hA2,cx,(Dk (Drops.drop (Dk (Dk (Dk (Zt2 _))))))⟩
   have hie:i=b.qb.to.length:=by omega
   subst hie;rw [Ye] at hD hX3;change dn++ []=_ at hD;change X2=_ at hX3;rw [List.append_nil] at hD;refine A5 (S':= .cells s.g 40 (s.xs.flatMap V.leaves++s.rest):: .cells g6 31 [.int f.name,Av (some s)]:: .cells g2 31 zs31:: .cells g1 31 [.int f.name,Ae f.qa]::(BF<|rows2.set k<|Dr o2<|dn)) (by show(Own.cells s.g 40 (s.xs.flatMap V.leaves++s.rest)::Own.cells g6 31 [.int f.name,Av (some s)]::Own.cells g2 31 zs31::Own.cells g1 31 [.int f.name,Ae f.qa]::(BF<|rows2.set k<|Dr o2 (dn++b.qb.to.drop b.qb.to.length)):Af).Perm _;rw [Ye,List.append_nil])<|Zt<|Ze1<|Ze1<|Zc1<|Zb1<|Zi<|Zd<|cm J J<|ca J<|Za<|Zi ?_;exact ⟨(k+1,X2,rows2.set k (Dr o2 dn),s),(by (try simp only []);omega),⟨by omega,Y1 hI hb h2 hx2 (by rw [hD];exact hGk) (by rw [hD];exact J8 ..),by rw [hX3];exact hG2,by rw [hX3];exact hX,hrs,hso,by omega⟩,cw,(Dk (Dk (Dk (Dk (Zt2 _)))))⟩
  have hke:k=f.qa.length:=by omega
  subst hke;rw [Ye] at hX;change X=_ at hX;subst hX;have hsl2:r.xs.length=(Ac f).qa.length:=by omega
  refine Zt<|Ze1<|Ze1<|Zc1<|Zi<|Zb<|cd<|cf fa31_1 J<|cg 1 ty29 J J J<|Zc<|A4 underlying29 J<|cj J J J<|Zn1 J (λ h75=> ?_)<|λ h75=> ?_
  .
   rw [if_pos (by omega)] at hr;refine cd<|Zc<|Zf2 [] [] st31 J J J J<|Zc<|Zx 2 ty31 J J J J J<|cb J<|Zf1<|Zd1<|Zh1 J J (.cons (.agg (i:=2) ty31 J J J)<|.cons (.tmp J)<|.nil) ?_;rw [hr];rfl
  rw [if_neg (by omega)] at hr;refine Zi1<|Zi ?_;obtain ⟨c1,c2,c3⟩:=hro2;have hIl:=hI.len;have hP2:=Tx (f:=f) (hIl.trans hRl);have hcell:r.xs.flatMap V.leaves++r.rest= []++(((GI f rows2).map λx=>cpV x.1 x.2).flatMap V.leaves++(((Cl f).2.map jV).flatMap V.leaves++r.rest)):=by rw [hrx, <- Y6 hRl hI,List.flatMap_append,Ya];rfl
  refine CS (S':= .cells r.g 40 ([]++(((GI f rows2).map λx=>cpV x.1 x.2).flatMap V.leaves++(((Cl f).2.map jV).flatMap V.leaves++r.rest)))::(BF ((GI f rows2).map (·.2))++ [.cells g6 31 [.int f.name,Av (some r)], .cells g2 31 zs31])) (Drops.trans (.keep<|.keep<|.keep<|.drop<|.refl _)<|.of_perm ?_) ?_
  . rw [hcell,hP2];exact .cons _ (Yf (l₁:= [_,_]))
  refine Fp r.g _ (GI f rows2) [] [.cells g6 31 [.int f.name,Av (some r)], .cells g2 31 zs31] (Y5 hRl hI) ?_;rw [Ou (hIl.trans hRl)];refine E6 0 0 1 (sz:=7) (rest:=r.rest) ((Ac f).qa.map An) J J J (Vd _) (by rw [Yc];exact hsl2.symm) c1 c2 (IK _) ?_;show VW prog _ _ _ _ [.cells g6 31 [.int f.name,Ae (Ac f).qa], .cells g2 31 zs31];refine cd<|Zc<|Zv 0 ty31 J J J<|Zc<|Zx 1 ty31 J J J J J<|cb J<|Zf1<|Zh1 J J (.cons (.agg (i:=1) ty31 J J J)<|.cons (.tmp J)<|.nil) ?_;rw [hr];rfl
 rw [if_pos h0] at hr;refine Zc<|Zx1 [.tmp 12] J J en34 (hPr)<|ca J<|Zc<|Zg2 J J<|Zc<|Zg2 J J<|ci J<|cb J<|Zb<|cd<|ca J<|cj J J J<|Zm1 J (λ h17=> ?_)<|λ h17=> ?_
 .
  refine cd<|Zc<|Zf2 [] [] st31 J J J J<|ca J<|Zc<|Zx 0 ty31 J J J J J<|cb J<|Zf1<|Zd1<|Zh1 J J (.cons (.agg (i:=0) ty31 J J J)<|.cons (.tmp J)<|.nil) ?_;rw [hr];rfl
 exact absurd h17 h0
theorem Ad4 {f:Ai}(h:Bu f=0)(hl:¬128<((Ac f).qa.length:Int)):AP prog 52 [Bs f] (.tup [Bs (Ac f), .int 0]):=by
 have h1:=Ws f
 rwa [QZ,if_neg (λ hn=>hn h),if_neg hl] at h1
theorem Y7 {f:Ai}(h:Bu f=0)(hl:128<((Ac f).qa.length:Int)):AP prog 52 [Bs f] (.tup [.agg zs31, .int 2]):=by
 have h1:=Ws f
 rwa [QZ,if_neg (λ hn=>hn h),if_pos hl] at h1
end Go.Proofs.YthlflmmnankhhaaGreat.X30
end
section
namespace Go.Proofs.YthlflmmnankhhaaGreat.X36
open Go.VL Go.SM Go.Proofs.YthlflmmnankhhaaGreat X1 X2 X3 X4 X5 X6 X7 X8 X9 X10 XS X12 X13 X20 X25 X26 VT Tryz
theorem Ad5 {m o:Own}{O:Af}:(m::o::O).Perm (O++ [m,o]):=Yf (l₁:= [m,o])
theorem Ad6 {m o:Own}{O:Af}:Drops (O++ [m,o]) (m::o::O):=Drops.of_perm (Yf (l₂:= [m,o]))
theorem Ad7 {m o r:Own}{O:Af}:(m::o::r::O).Perm (O++ [m,o,r]):=Yf (l₁:= [m,o,r])
theorem Ad8 {m o r:Own}{O:Af}:Drops (O++ [m,o,r]) (m::o::r::O):=Drops.of_perm (Yf (l₂:= [m,o,r]))
theorem Q0 (b:Aa)(l:List Aa):Df (b::l)=(b.params++b.ins.map (·.to))++Df l:=by simp [Df]
theorem Ty {bs:List Aa}{b:Aa}(hb:b∈bs):(∀v∈b.params,v∈Df bs)/\∀i∈b.ins,i.to∈Df bs:=
 ⟨λ v hv=>List.mem_flatMap.2 ⟨b,hb,List.mem_append_left _ hv⟩,λi hi=>List.mem_flatMap.2 ⟨b,hb,List.mem_append_right _ (List.mem_map.2 ⟨i,hi,rfl⟩)⟩⟩
theorem Aci (f:Ai){c:FuncId}{caps:List V}(hen:Go.VL.Enters prog c){ι:Type}(O:ι->Af)(g:ι->Int->ι)(s0:ι)(hc:∀s v,v∈Df f.qa->AH prog c (.int v::caps) (O s) λr S'=>S'=O (g s v)):AH prog 87 [Bs f, .clo (.func c) caps] (O s0) λr S'=>S'=O ((Df f.qa).foldl g s0):=by
 refine AB<|Al (nt:=41) func87 J J J ?_;refine cd<|Zc<|Zc2 rfl rfl<|λ g2=>(cn<|cd<|Zc<|Zj fa31_1 rfl<|Zc<|Zu 0 ty29 rfl rfl rfl<|Zc<|Zd2 (n:=f.qa.length) underlying29 rfl (by simp)<|λ hl12=>(Zc<|Zl rfl<|cn<|Zs<|Zi2 (ι:=Nat×ι) (λ (k,s)=>f.qa.length - k) (λ (k,s)=> [(1,some (.clo (.func c) caps)),(2,some (.ptr g2 0)),(11,some (Ae f.qa)),(12,some (.int f.qa.length)),(13,some (.int k))]) (λ (k,s)=> .cells g2 31 [.int f.name,Ae f.qa]::O s) (λ (k,s)=>k<=f.qa.length/\(Df<|f.qa.drop k).foldl g s=(Df f.qa).foldl g s0) (0,s0) ⟨Yj _,rfl⟩ cp (Dk<|Zt2 _) ?_));rintro ⟨k,s⟩ hA;obtain ⟨hk,hq⟩:=hA
 try dsimp only at hk hq
 refine cd<|cj J J J<|Zb<|Zn1 J (λ h14=> ?_)<|λ h14=> ?_
 .
  obtain⟨b,hb⟩:=Ab f.qa k h14;obtain ⟨hvp,hvi⟩:=Ty (Yd hb);rw [Ag hb,Q0,List.foldl_append,List.foldl_append] at hq;refine co<|Zb<|Zs<|cd<|Zc<|Zz (el:=An b) sl29 rfl rfl (by omega) (Aq _ hb)<|λ a15=>(Zc<|Za2 ty40 rfl rfl<|Zc<|Zb2 zr40 _ rfl rfl<|λ g5=>(Zc<|Zx 0 ty40 rfl rfl rfl rfl rfl<|cn<|Zb<|cd<|Zc<|Zj fa40_0 rfl<|Zc<|Zu 0 ty32 rfl rfl rfl<|Zc<|Zd2 (n:=b.params.length) underlying32 rfl (by simp)<|λ hl19=>(Zc<|Zl rfl<|cn<|Zs<|Zi2 (ι:=Nat×ι) (λ (j,s2)=>b.params.length - j) (λ (j,s2)=> [(1,some (.clo (.func c) caps)),(2,some (.ptr g2 0)),(11,some (Ae f.qa)),(12,some (.int f.qa.length)),(13,some (.int k)),(5,some (.ptr g5 0)),(18,some (Ad b.params)),(19,some (.int b.params.length)),(20,some (.int j))]) (λ (j,s2)=> .cells g5 40 (An b).leaves:: .cells g2 31 [.int f.name,Ae f.qa]::O s2) (λ (j,s2)=>j<=b.params.length/\(b.params.drop j).foldl g s2=b.params.foldl g s) (0,s) ⟨Yj _,rfl⟩ ct (Dk<|Dk<|Zt2 _) ?_)));rintro ⟨j,s2⟩ hA2;obtain ⟨hj,hq2⟩:=hA2
  try dsimp only at hj hq2
  refine cd<|cj J J J<|Zb<|Zn1 J (λ h21=> ?_)<|λ h21=> ?_
  .
   obtain⟨v,hv⟩:=Ab b.params j h21;rw [Ag hv,List.foldl_cons] at hq2;refine co<|Zb<|Zs<|cd<|Zc<|Zz (el:=V.int v) sl32 J J (by omega) (Bn hv)<|λ a22=>(Zc<|Zz1 ty3 J J<|cb J<|Zd<|ca J<|ca J<|Zc<|Hw [.tmp 25] (O s2) [_,_] J J J hen Ad5 (hc s2 v<|hvp v<|Yd hv) ?_);rintro r Sa rfl;refine ⟨_,Ad6,?_⟩;refine Za<|Zb1<|Zi<|Zd<|cm J J<|ca J<|Za<|Zi ?_;exact ⟨(j+1,g s2 v),(by (try simp only []);omega),⟨by omega,hq2⟩,ct,(Dk (Dk (Zt2 _)))⟩
  have hje:j=b.params.length:=by omega
  subst hje;rw [Ye,List.foldl_nil] at hq2;rw [<- hq2] at hq;refine Zt<|Ze1<|Ze1<|Zc1<|Zi<|cd<|Zc<|Zj fa40_1 rfl<|Zc<|Zu 0 ty35 rfl rfl rfl<|Zc<|Zd2 (n:=b.ins.length) underlying35 rfl (by simp)<|λ hl30=>(Zc<|Zl rfl<|cn<|Zs<|Zi2 (ι:=Nat×ι) (λ (j,s3)=>b.ins.length - j) (λ (j,s3)=> [(1,some (.clo (.func c) caps)),(2,some (.ptr g2 0)),(11,some (Ae f.qa)),(12,some (.int f.qa.length)),(13,some (.int k)),(5,some (.ptr g5 0)),(29,some (AF b.ins)),(30,some (.int b.ins.length)),(31,some (.int j))]) (λ (j,s3)=> .cells g5 40 (An b).leaves:: .cells g2 31 [.int f.name,Ae f.qa]::O s3) (λ (j,s3)=>j<=b.ins.length/\((b.ins.drop j).map (·.to)).foldl g s3=(b.ins.map (·.to)).foldl g s2) (0,s2) ⟨Yj _,rfl⟩ ct (Dk<|Dk<|Zt2 _) ?_);rintro ⟨j,s3⟩ hA3;obtain ⟨hj3,hq3⟩:=hA3
  try dsimp only at hj3 hq3
  refine cd<|cj J J J<|Zb<|Zn1 J (λ h32=> ?_)<|λ h32=> ?_
  .
   obtain⟨i,hi⟩:=Ab b.ins j h32;rw [Ag hi,List.map_cons,List.foldl_cons] at hq3;refine co<|Zb<|Zs<|cd<|Zc<|Zz (el:=AL i) sl35 J J (by omega) (Aq _ hi)<|λ a33=>(Zc<|Za2 ty42 J J<|Zc<|Zb2 zr42 _ J J<|λ g9=>(Zc<|Zx 0 ty42 J J J J J<|cn<|Zd<|ca J<|cf fa42_0 J<|cg 0 ty3 J J J<|Zc<|Hw [.tmp 37] (O s3) [_,_,_] J J J hen Ad7 (hc s3 i.to<|hvi i<|Yd hi) ?_));rintro r Sa rfl;refine ⟨_,Ad8,?_⟩;refine Za<|Zb1<|Zi<|Zd<|cm J J<|ca J<|Za<|Zi ?_;exact ⟨(j+1,g s3 i.to),(by (try simp only []);omega),⟨by omega,hq3⟩,ct,(Drops.drop (Dk (Dk (Zt2 _))))⟩
  have hje:j=b.ins.length:=by omega
  subst hje;rw [Ye,List.map_nil,List.foldl_nil] at hq3;rw [<- hq3] at hq;refine Zt<|Ze1<|Ze1<|Zc1<|Zb1<|Zi<|Zd<|cm J J<|ca J<|Za<|Zi ?_;exact ⟨(k+1,s3),(by (try simp only []);omega),⟨by omega,hq⟩,cp,(Drops.drop (Dk (Zt2 _)))⟩
 have hke:k=f.qa.length:=by omega
 subst hke;rw [Ye] at hq;refine Zt<|Ze1<|Ze1<|Zc1<|Zn3 J ?_;exact ⟨_,Drops.drop (Zt2 _),by rw [<- hq];rfl⟩
theorem Acj (g:Nat)(n v:Int)(hv:0<=v/\v<=4095):AH prog 88 [.int v, .ptr g 0] [.cells g 3 [.int n]] λr S'=>S'= [.cells g 3 [.int (max n (v+1))]]:=by
 refine AB<|Al (nt:=7) func88 J J J ?_;refine Zd<|cg 0 ty3 J J J<|ca J<|cm J J<|Zc<|Mw J J<|Zc<|Zy 0 ty3 J J J J J<|Za<|Zn3 J ?_;exact ⟨_,Zt2 _,congrArg (λ x=> [Own.cells g 3 [V.int x]]) (by split <;> omega)⟩
theorem Ad9 {f:Ai}(h:Bu f=0):AP prog 53 [Bs f] (.int (Ay f.qa)):=by
 have hok:=Bf h;refine Al (nt:=8) func53 J J J ?_;refine cd<|Zc<|Zc2 J J<|λ g1=>(cb J<|cd<|Zc<|Zb2 zr3 _ J J<|λ g3=>(Zc<|Zy 0 ty3 J J J J J<|cn<|cd<|Zc<|Zv 1 ty31 J J J<|Zc<|Er [.tmp 3] J J<|Zc<|Dc [.tmp 4, .tmp 5] [.cells g3 3 [.int 0]] [_] J J en87 (.refl _) (Aci f en88 (λ n:Int=> [.cells g3 3 [.int n]]) (λ n v=>max n (v+1)) 0<|λ n v hv=>Acj g3 n v<|GT hok v hv) ?_));rintro r Sa rfl;refine ⟨_,Zt2 _,?_⟩;refine cn<|cd<|cg 0 ty3 J J J<|cb J<|Zf1<|Zg1 J (.tmp J) ?_;rfl
end Go.Proofs.YthlflmmnankhhaaGreat.X36
end
