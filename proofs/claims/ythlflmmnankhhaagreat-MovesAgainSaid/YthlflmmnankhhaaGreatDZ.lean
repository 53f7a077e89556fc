import Derived.Test.YthlflmmnankhhaaGreatSZ
set_option linter.all false
open List renaming mem_of_getElem? → Ya, mem_cons_self → Yb, getElem?_eq_some_iff → Yc, mem_cons_of_mem → Yd, mem_cons → Ye, length_cons → Yf, mem_map → Yg, length_map → Yh, length_append → Yi, append_assoc → Yj, getElem?_of_mem → Yk, mem_singleton → Yl, replicate → Ym, getElem?_map → Yn, append_nil → Yo, foldl_cons → Yp, length_replicate → Yq, getElem?_set → Yr, all_eq_true → Ys, map_cons → Yt, length_set → Yu, mem_append → Yv, getElem?_eq_getElem → Yw, getElem?_append_right → Yx, nodup_cons → Yy, range → Yz, map_append → Yaa, nil_append → Yab, getElem?_append_left → Yac, getElem?_replicate → Yad, getElem?_eq_none → Yae, length_eq_one_iff → Yaf, mem_append_left → Yag, nodup_append → Yah, getElem?_drop → Yai, map_map → Yaj, flatMap_cons → Yak, length_take → Yal, cons_append → Yam, mem_append_right → Yan, any_eq_false → Yao, map_congr_left → Yap, length_eq_zero_iff → Yaq, getElem?_eq_none_iff → Yar, take_append_drop → Yas, take_of_length_le → Yat, getElem?_cons_succ → Yau, foldl_append → Yav, length_pos_of_mem → Yaw, length_nil → Yax, mem_range → Yay, mem_reverse → Yaz, getElem?_range → Yba, drop_drop → Ybb, pairwise_map → Ybc, mem_filter → Ybd, ext_getElem? → Ybe, count_cons_of_ne → Ybf
open Nat renaming zero_le → Ybg, le_refl → Ybh, zero_add → Ybi, add_zero → Ybj, sub_self → Ybk, le_trans → Ybl, succ_mul → Ybm, mul_le_mul_right → Ybn
open Int renaming le_refl → Ybo, toNat_natCast → Ybp, le_trans → Ybq, add_zero → Ybr
section
namespace Go.SM
open Go.VL
def J1 (l:List (List Int)):V:= .sl 1 none (l.map Ad)
def FT (k:Nat)(P:List (List Int))(e:Am):List (List Int):=P.set e.block.toNat ((P[e.block.toNat]?.getD [])++ [(k:Int)])
def HT (k:Nat)(P:List (List Int))(b:Aa):List (List Int):=b.qb.to.foldl (FT k) P
def Hk:Nat->List Aa->List (List Int)->List (List Int)
 | _,[],P=>P
 | k,b::l,P=>Hk (k+1) l (HT k P b)
def CV (bs:List Aa):List (List Int):=Hk 0 bs (Ym bs.length [])
theorem Hl (k:Nat)(P:List (List Int))(e:Am):(FT k P e).length=P.length:=by simp [FT]
theorem Hm {k:Nat}:∀(l:List Am) (P:List (List Int)),(l.foldl (FT k) P).length=P.length
 | [],P=>rfl
 | e::l,P=>by rw [Yp,Hm l,Hl]
theorem OZ:∀(k:Nat) (l:List Aa) (P:List (List Int)),(Hk k l P).length=P.length
 | k,[],P=>rfl
 | k,b::l,P=>by rw [Hk,OZ (k+1) l,HT,Hm]
theorem MX (bs:List Aa):(CV bs).length=bs.length:=by rw [CV,OZ,Yq]
def Gq (P:List (List Int)):Nat:=(P.map List.length).sum
def Ck:List Aa->Nat
 | []=>0
 | b::l=>b.qb.to.length+Ck l
theorem Xm {P:List (List Int)}{t:Nat}{x:Int}(h:t<P.length):Gq (P.set t ((P[t]?.getD [])++ [x]))=Gq P+1:=by
 have h1:(P.map List.length)[t]? =some (P[t]?.getD []).length:=by rw [Yn,Yw h];rfl
 have:=Wh (y:=((P[t]?.getD [])++ [x]).length) h1;unfold Gq;rw [List.map_set];rw [Yi] at this ⊢;simp at this ⊢;omega
theorem Ug {P:List (List Int)}{t:Nat}{l:List Int}{x:Int}(h:P[t]? =some l):Gq (P.set t (l++ [x]))=Gq P+1:=by
 have:=Xm (x:=x) (Yc.1 h).1;rw [h] at this;exact this
theorem Uh (n:Nat):Gq (Ym n [])=0:=by simp [Gq]
theorem Lx {l:List Aa}{k:Nat}{b:Aa}(h:l[k]? =some b):Ck (l.take (k+1))=Ck (l.take k)+b.qb.to.length:=by
 induction l generalizing k with
 | nil=>simp at h
 | cons a l ih=>
  cases k with
  | zero=>simp at h;subst h;simp [Ck]
  | succ k=>simp at h;have:=ih h;simp [Ck,this];omega
theorem Jf:∀(l:List Aa) (k:Nat),Ck (l.take k)<=Ck l
 | [],k=>by simp
 | b::l,0=>by simp [Ck]
 | b::l,k+1=>by
  have:=Jf l k;rw [List.take_succ_cons,Ck,Ck];omega
theorem O0:∀ {l:List Aa} {n:Nat},(∀b∈l,b.qb.to.length<=n)->Ck l<=n*l.length
 | [],n,_=>by simp [Ck]
 | b::l,n,h=>by
  have:=O0 λc hc=>h c (Yd b hc);have:=h b (Yb ..);rw [Ck,Yf,Nat.mul_add];omega
theorem Et {f:Ai}(h:CA f){b:Aa}(hb:b∈f.qa):b.qb.to.length<=257:=by
 have he:=CN (h.block hb).2;have hm:=he.many;have hs:=he.shape;unfold Dh at hs
 repeat' split at hs
 all_goals first | (simp only [Bool.and_eq_true,decide_eq_true_eq] at hs;omega) | cases hs
theorem CA.edges {f:Ai}(h:CA f):∀b∈f.qa,∀e∈b.qb.to,1<=e.block/\e.block<f.qa.length:=Kw h.qa
theorem RL {f:Ai}(h:CA f):Ck f.qa<=32896:=by
 have:=O0 λb hb=>Et h (b:=b) hb;have:=h.len;omega
structure Eu where
 seen:List Bool
 stack:List (Nat×Nat)
 out:List Nat
def Gr (bs:List Aa)(b:Nat):List Am:=((bs[b]?).map (·.qb.to)).getD []
def Edge (bs:List Aa)(p v:Nat):Prop:=∃x∈Gr bs p,x.block.toNat=v
def HH (bs:List Aa)(s:Eu):Eu:=
 match s.stack with
 | []=>s
 | (b,e)::st=>
  match (Gr bs b)[e]? with
  | none=>⟨s.seen,st,s.out++ [b]⟩
  | some x=>if s.seen[x.block.toNat]? =some false then ⟨s.seen.set x.block.toNat true,(x.block.toNat,0)::(b,e+1)::st,s.out⟩ else ⟨s.seen,(b,e+1)::st,s.out⟩
def G5 (bs:List Aa):Nat->Eu->Eu
 | 0,s=>s
 | n+1,s=>if s.stack= [] then s else G5 bs n (HH bs s)
def Dz (n:Nat):Eu:=⟨(Ym n false).set 0 true,[(0,0)],[]⟩
def Gs (bs:List Aa):List Nat:=(G5 bs (Ck bs+bs.length) (Dz bs.length)).out
def AJ (bs:List Aa):List Nat:=(Gs bs).reverse
theorem Bz {bs:List Aa}{k:Nat}{b:Aa}(h:bs[k]? =some b):Gr bs k=b.qb.to:=by rw [Gr,h];rfl
def RM (bs:List Aa)(k:Nat):Nat:=(Gr bs k).length+1
def GR (bs:List Aa):Nat->List Bool->Nat
 | _,[]=>0
 | k,s::l=>(if s then 0 else RM bs k)+GR bs (k+1) l
def Jr (bs:List Aa):List (Nat×Nat)->Nat
 | []=>0
 | (b,e)::st=>(RM bs b - e)+Jr bs st
def Oi (bs:List Aa)(s:Eu):Nat:=GR bs 0 s.seen+Jr bs s.stack
theorem Js (bs:List Aa):∀(l:List Bool) (k n:Nat),l[n]? =some false->GR bs k (l.set n true)+RM bs (k+n)=GR bs k l
 | [],k,n,h=>by simp at h
 | s::l,k,0,h=>by
  simp at h;subst h;simp [GR];omega
 | s::l,k,n+1,h=>by
  simp at h;have:=Js bs l (k+1) n h;simp only [List.set_cons_succ,GR];rw [show k+(n+1)=k+1+n by omega];omega
structure DfsInv0 (bs:List Aa)(s:Eu):Prop where
 len:s.seen.length=bs.length
 stk:∀x∈s.stack,x.1<bs.length/\x.2<=(Gr bs x.1).length/\s.seen[x.1]? =some true
theorem AaO {bs:List Aa}{s:Eu}(h:DfsInv0 bs s)(hne:s.stack≠ []):Oi bs (HH bs s)+1=Oi bs s:=by
 unfold HH;split
 .rename_i he;exact absurd he hne
 rename_i b e st hs;have hb:=h.stk (b,e) (by rw [hs];exact Yb ..);dsimp only at hb;split
 .rename_i hn
  have:e=(Gr bs b).length:=by
   have:=Yar.1 hn;omega
  unfold Oi;rw [hs];simp only [Jr,RM];omega
 rename_i x hx;have hlt:=(Yc.1 hx).1;split
 .rename_i hu;have:=Js bs s.seen 0 _ hu;unfold Oi;rw [hs];simp only [Jr];rw [Ybi] at this;have hc:RM bs b=(Gr bs b).length+1:=rfl;omega
 unfold Oi;rw [hs];simp only [Jr,RM];omega
def Fq (bs:List Aa):List (Nat×Nat)->Prop
 | []=>True
 | [x]=>x.1=0
 | x::y::st=>Edge bs y.1 x.1/\Fq bs (y::st)
def Ie (s:Eu)(v:Nat):Prop:=s.seen[v]? =some true
structure Jt (bs:List Aa)(s:Eu):Prop extends DfsInv0 bs s where
 out:∀v∈s.out,v<bs.length/\Ie s v
 nodup:(s.stack.map (·.1)++s.out).Nodup
 cover:∀v,Ie s v->v∈s.stack.map (·.1)\/v∈s.out
 closedO:∀v∈s.out,∀x∈Gr bs v,Ie s x.block.toNat
 closedS:∀y∈s.stack,∀i x,i<y.2->(Gr bs y.1)[i]? =some x->Ie s x.block.toNat
 chain:Fq bs s.stack
 par:∀(i v:Nat),s.out[i]? =some v->v≠0->∃p,Edge bs p v/\(p∈s.stack.map (·.1)\/∃j,i<j/\s.out[j]? =some p)
 root:s.stack= []->∃l,s.out=l++ [0]
theorem Fq.tail {bs:List Aa}{x:Nat×Nat}:∀ {st:List (Nat×Nat)},Fq bs (x::st)->Fq bs st
 | [],_=>trivial
 | y::st,h=>h.2
theorem Fq.head {bs:List Aa}{x y:Nat×Nat}(he:x.1=y.1):∀ {st:List (Nat×Nat)},Fq bs (x::st)->Fq bs (y::st)
 | [],h=>by
  have h:x.1=0:=h;show y.1=0;rw [<- he];exact h
 | z::st,h=>⟨by rw [<- he];exact h.1,h.2⟩
theorem Gc {l:List Bool}{n v:Nat}(h:l[v]? =some true):(l.set n true)[v]? =some true:=by
 rw [Yr];split
 .rename_i e;subst e;rw [if_pos (Yc.1 h).1]
 exact h
theorem RN {bs:List Aa}{s:Eu}(hE:∀b∈bs,∀e∈b.qb.to,1<=e.block/\e.block<bs.length)(h:Jt bs s):Jt bs (HH bs s):=by
 unfold HH;split
 .exact h
 rename_i b e st hs;have hb:=h.stk (b,e) (by rw [hs];exact Yb ..);dsimp only at hb;have hnd:=h.nodup;rw [hs] at hnd;have hch:=h.chain;rw [hs] at hch;split
 .rename_i hn;have hee:(Gr bs b).length<=e:=Yar.1 hn;refine ⟨⟨h.len,λx hx=>h.stk x (by rw [hs];exact Yd _ hx)⟩,?_,?_,?_,?_,?_,hch.tail,?_,?_⟩
  .intro v hv;rcases Yv.1 hv with hv | hv
   .exact h.out v hv
   rw [Yl.1 hv];exact⟨hb.1,hb.2.2⟩
  .dsimp only;rw [<- Yj];rw [Yt,Yam] at hnd;have hp:((b,e).1::(st.map (·.1)++s.out)).Perm (st.map (·.1)++s.out++ [b]):=(List.perm_append_singleton _ _).symm;exact hp.nodup_iff.1 hnd
  .intro v hv;rcases h.cover v hv with hv | hv
   .rw [hs] at hv;rcases Ye.1 hv with rfl | hv
    .exact .inr (Yan _ (Yl.2 rfl))
    exact .inl hv
   exact .inr (Yag _ hv)
  .intro v hv x hx;rcases Yv.1 hv with hv | hv
   .exact h.closedO v hv x hx
   have hvb:=Yl.1 hv;subst hvb;obtain ⟨i,hi⟩:=Yk hx;exact h.closedS (v,e) (by rw [hs];exact Yb ..) i x (by have:=(Yc.1 hi).1;show i<e;omega) hi
  .exact λy hy=>h.closedS y (by rw [hs];exact Yd _ hy)
  .intro i v hi h0;dsimp only at hi ⊢
   by_cases hlt:i<s.out.length
   .rw [Yac hlt] at hi;obtain ⟨p,hp1,hp2⟩:=h.par i v hi h0;refine ⟨p,hp1,?_⟩;rcases hp2 with hp2 | ⟨j,hj,hj2⟩
    .rw [hs] at hp2;rcases Ye.1 hp2 with rfl | hp2
     .exact .inr ⟨s.out.length,hlt,by rw [Yx (Ybh _)];simp⟩
     exact .inl hp2
    exact .inr ⟨j,hj,by rw [Yac (Yc.1 hj2).1];exact hj2⟩
   rw [Yx (by omega)] at hi
   have:i - s.out.length=0:=by
    have:=(Yc.1 hi).1;simp at this;omega
   rw [this] at hi;simp at hi;subst hi
   cases st with
   | nil=>exact absurd hch h0
   | cons y st=>exact⟨y.1,hch.1, .inl (Yg.2 ⟨y,Yb ..,rfl⟩)⟩
  intro hst;dsimp only at hst;subst hst;have hb0:b=0:=hch;exact ⟨s.out,by rw [hb0]⟩
 rename_i x hx;have hlt:=(Yc.1 hx).1;have hxm:=Ya hx
 have hxn:x.block.toNat<bs.length:=by
  obtain⟨bl,hbl⟩:∃bl,bs[b]? =some bl:=⟨_,Yw hb.1⟩;rw [Bz hbl] at hxm;have:=hE bl (Ya hbl) x hxm;omega
 split
 .rename_i hu
  have hns:∀v,Ie s v->v≠x.block.toNat:=λv hv e=>by
   subst e;unfold Ie at hv;rw [hu] at hv
   cases hv
  have hnew:(s.seen.set x.block.toNat true)[x.block.toNat]? =some true:=by rw [Yr,if_pos rfl,if_pos (by rw [h.len];exact hxn)]
  refine⟨⟨by rw [Yu];exact h.len,?_⟩,?_,?_,?_,?_,?_,?_,?_,?_⟩
  .intro y hy;rcases Ye.1 hy with rfl | hy
   .exact ⟨hxn,Ybg _,hnew⟩
   rcases Ye.1 hy with rfl | hy
   .exact ⟨hb.1,hlt,Gc hb.2.2⟩
   have:=h.stk y (by rw [hs];exact Yd _ hy);exact ⟨this.1,this.2.1,Gc this.2.2⟩
  .exact λv hv=>⟨(h.out v hv).1,Gc (h.out v hv).2⟩
  .dsimp only;rw [Yt,Yt,Yam];refine Yy.2 ⟨λ hm=> ?_,hnd⟩
   have hsn:Ie s x.block.toNat:=by
    rcases Yv.1 hm with hm | hm
    .rcases Ye.1 hm with e1 | hm
     .have e1:x.block.toNat=b:=e1;rw [e1];exact hb.2.2
     obtain⟨y,hy,hy2⟩:=Yg.1 hm;have hy2:y.1=x.block.toNat:=hy2;rw [<- hy2];exact (h.stk y (by rw [hs];exact Yd _ hy)).2.2
    exact(h.out _ hm).2
   exact hns _ hsn rfl
  .intro v hv;unfold Ie at hv;dsimp only at hv ⊢
   by_cases hvx:v=x.block.toNat
   .subst hvx;exact .inl (Yb ..)
   rw [List.getElem?_set_ne (Ne.symm hvx)] at hv;rcases h.cover v hv with hc | hc
   .rw [hs] at hc;exact .inl (Yd _ hc)
   exact .inr hc
  .exact λv hv y hy=>Gc (h.closedO v hv y hy)
  .intro y hy i z hi hz;rcases Ye.1 hy with rfl | hy
   .exact absurd hi (Nat.not_lt_zero _)
   rcases Ye.1 hy with rfl | hy
   .dsimp only at hi hz
    by_cases hie:i=e
    .subst hie;rw [hx] at hz;injection hz with hz;subst hz;exact hnew
    exact Gc (h.closedS (b,e) (by rw [hs];exact Yb ..) i z (by show i<e;omega) hz)
   exact Gc (h.closedS y (by rw [hs];exact Yd _ hy) i z hi hz)
  .exact ⟨⟨x,hxm,rfl⟩,Fq.head (x:=(b,e)) (y:=(b,e+1)) rfl hch⟩
  .intro i v hi h0;obtain ⟨p,hp1,hp2⟩:=h.par i v hi h0;refine ⟨p,hp1,hp2.imp (λ hp2=> ?_) id⟩;rw [hs] at hp2;exact Yd _ hp2
  intro hst;cases hst
 rename_i hu
 have hsx:Ie s x.block.toNat:=by
  unfold Ie
  cases hv:s.seen[x.block.toNat]? with
  | none=>
   have:=Yar.1 hv;rw [h.len] at this;omega
  | some v=>
   cases v with
   | true=>rfl
   | false=>exact absurd hv hu
 refine⟨⟨h.len,?_⟩,h.out,?_,?_,h.closedO,?_,?_,?_,?_⟩
 .intro y hy;rcases Ye.1 hy with rfl | hy
  .exact ⟨hb.1,hlt,hb.2.2⟩
  exact h.stk y (by rw [hs];exact Yd _ hy)
 .exact hnd
 .intro v hv;rcases h.cover v hv with hc | hc
  .rw [hs] at hc;exact .inl hc
  exact .inr hc
 .intro y hy i z hi hz;rcases Ye.1 hy with rfl | hy
  .dsimp only at hi hz
   by_cases hie:i=e
   .subst hie;rw [hx] at hz;injection hz with hz;subst hz;exact hsx
   exact h.closedS (b,e) (by rw [hs];exact Yb ..) i z (by show i<e;omega) hz
  exact h.closedS y (by rw [hs];exact Yd _ hy) i z hi hz
 .exact Fq.head (x:=(b,e)) (y:=(b,e+1)) rfl hch
 .intro i v hi h0;obtain ⟨p,hp1,hp2⟩:=h.par i v hi h0;refine ⟨p,hp1,hp2.imp (λ hp2=> ?_) id⟩;rw [hs] at hp2;exact hp2
 intro hst;cases hst
theorem EQ {l:List Nat}{n:Nat}(h:l.Nodup)(hr:∀v∈l,v<n):l.length<=n:=by
 have:=h.length_le_of_subset (l₂:=Yz n) λv hv=>Yay.2 (hr v hv);simpa using this
theorem O1 {bs:List Aa}{s:Eu}(h:Jt bs s):s.stack.length<=bs.length/\s.out.length<=bs.length:=by
 have h1:=(Yah.1 h.nodup).1;have h2:=(Yah.1 h.nodup).2.1
 have:=EQ h1 (n:=bs.length) λv hv=>by
  obtain⟨x,hx,rfl⟩:=Yg.1 hv;exact (h.stk x hx).1
 exact⟨by simpa using this,EQ h2 λv hv=>(h.out v hv).1⟩
theorem O2 {bs:List Aa}(h0:0<bs.length):Jt bs (Dz bs.length):=by
 have hs:(Dz bs.length).seen[0]? =some true:=by
  show((Ym bs.length false).set 0 true)[0]? =some true;rw [Yr,if_pos rfl,if_pos (by simpa using h0)]
 refine⟨⟨by simp [Dz],λx hx=> ?_⟩,λv hv=>(by cases hv),by simp [Dz],λv hv=> ?_,λv hv=>(by cases hv),λy hy i x hi=> ?_,rfl,λi v hi=>(by simp [Dz] at hi),λh=>(by cases h)⟩
 .have hx:=Yl.1 hx;subst hx;exact ⟨h0,Ybg _,hs⟩
 .by_cases hv0:v=0
  .subst hv0;exact .inl (Yb ..)
  unfold Ie at hv;have:((Ym bs.length false).set 0 true)[v]? =some true:=hv;rw [List.getElem?_set_ne (Ne.symm hv0),Yad] at this;split at this <;> cases this
 have hy:=Yl.1 hy;subst hy;exact absurd hi (Nat.not_lt_zero _)
theorem VF {bs:List Aa}(hE:∀b∈bs,∀e∈b.qb.to,1<=e.block/\e.block<bs.length):∀(n:Nat) (s:Eu),Jt bs s->Oi bs s<=n->Jt bs (G5 bs n s)/\(G5 bs n s).stack= []
 | 0,s,h,hw=>by
  refine⟨h,?_⟩;show s.stack= []
  cases hs:s.stack with
  | nil=>rfl
  | cons x st=>
   have hb:=h.stk x (by rw [hs];exact Yb ..);unfold Oi at hw;rw [hs] at hw;obtain ⟨b,e⟩:=x;simp only [Jr,RM] at hw;dsimp only at hb;omega
 | n+1,s,h,hw=>by
  rw [G5];split
  .rename_i he;exact⟨h,he⟩
  rename_i hne;have:=AaO h.toDfsInv0 hne;exact VF hE n _ (RN hE h) (by omega)
theorem J2 (bs:List Aa):∀(l:List Aa) (k:Nat),(∀i b,l[i]? =some b->bs[k+i]? =some b)->GR bs k (Ym l.length false)=Ck l+l.length
 | [],k,_=>rfl
 | b::l,k,h=>by
  have h1:=J2 bs l (k+1) λi b hb=>by
   have:=h (i+1) b (by simpa using hb)
   rwa [show k+(i+1)=k+1+i by omega] at this
  have h2:=h 0 b rfl;rw [Ybj] at h2;rw [Yf,List.replicate_succ,GR,h1,Ck,RM,Bz h2];simp;omega
theorem J3 {bs:List Aa}(h0:0<bs.length):Oi bs (Dz bs.length)=Ck bs+bs.length:=by
 have h1:=J2 bs bs 0 λi b hb=>by rw [Ybi];exact hb
 have h2:=Js bs (Ym bs.length false) 0 0 (by rw [Yad,if_pos h0]);unfold Oi Dz;simp only [Jr];rw [Ybi] at h2;omega
structure Dx (bs:List Aa)(l:List Nat):Prop where
 nodup:l.Nodup
 lt:∀v∈l,v<bs.length
 zero:l[0]? =some 0
 closed:∀v∈l,∀w,Edge bs v w->w∈l
 par:∀(j v:Nat),l[j]? =some v->v≠0->∃i p,i<j/\l[i]? =some p/\Edge bs p v
theorem Dj {bs:List Aa}(h0:0<bs.length)(hE:∀b∈bs,∀e∈b.qb.to,1<=e.block/\e.block<bs.length):Dx bs (AJ bs):=by
 obtain⟨h,hst⟩:=VF hE (Ck bs+bs.length) _ (O2 h0) (by rw [J3 h0];exact Ybh _);have hpo:Gs bs=(G5 bs (Ck bs+bs.length) (Dz bs.length)).out:=rfl;unfold AJ;rw [hpo];generalize G5 bs (Ck bs+bs.length) (Dz bs.length)=s at *;have hn:=h.nodup;have hcov:=h.cover;rw [hst] at hn hcov;refine ⟨(List.reverse_perm _).nodup_iff.2 (by simpa using hn),λv hv=>(h.out v (Yaz.1 hv)).1,?_,?_,?_⟩
 .obtain ⟨l,hl⟩:=h.root hst;rw [hl];simp
 .rintro v hv w ⟨x,hx,rfl⟩;have:=h.closedO v (Yaz.1 hv) x hx;rcases hcov _ this with hc | hc
  .cases hc
  exact Yaz.2 hc
 intro j v hj h0;have hjl:=(Yc.1 hj).1;rw [List.length_reverse] at hjl;rw [List.getElem?_reverse hjl] at hj;obtain ⟨p,hp,hp2⟩:=h.par _ v hj h0;rcases hp2 with hp2 | ⟨i,hi,hi2⟩
 .rw [hst] at hp2;cases hp2
 have hil:=(Yc.1 hi2).1;refine ⟨s.out.length - 1 - i,p,by omega,?_,hp⟩;rw [List.getElem?_reverse (by omega)];rw [show s.out.length - 1 - (s.out.length - 1 - i)=i by omega];exact hi2
theorem RO {bs:List Aa}(h0:0<bs.length)(hE:∀b∈bs,∀e∈b.qb.to,1<=e.block/\e.block<bs.length):(Gs bs).length<=bs.length:=by
 have h:=Dj h0 hE;have:=EQ h.nodup h.lt;rw [AJ,List.length_reverse] at this;exact this
theorem Xn {k:Nat}{P:List (List Int)}{e:Am}{t:Nat}(he:e.block.toNat<P.length){x:Int}:x∈((FT k P e)[t]?.getD [])↔x∈(P[t]?.getD [])\/(x=k/\e.block.toNat=t):=by
 unfold FT;rw [Yr]
 by_cases h:e.block.toNat=t
 .subst h;rw [if_pos rfl,if_pos he];simp
 rw [if_neg h];simp [h]
theorem O3 {k:Nat}{t:Nat}{x:Int}:∀ {l:List Am} {P:List (List Int)},(∀e∈l,e.block.toNat<P.length)->(x∈((l.foldl (FT k) P)[t]?.getD [])↔x∈(P[t]?.getD [])\/(x=k/\∃e∈l,e.block.toNat=t))
 | [],P,_=>by simp
 | e::l,P,h=>by
  rw [Yp,O3 (P:=FT k P e) λy hy=>by rw [Hl];exact h y (Yd _ hy),Xn (h e (Yb ..))];constructor
  .rintro ((h1 | ⟨h1,h2⟩) | ⟨h1,y,hy,h2⟩)
   .exact .inl h1
   .exact .inr ⟨h1,e,Yb ..,h2⟩
   exact .inr ⟨h1,y,Yd _ hy,h2⟩
  rintro(h1 | ⟨h1,y,hy,h2⟩)
  .exact .inl (.inl h1)
  rcases Ye.1 hy with rfl | hy
  .exact .inl (.inr ⟨h1,h2⟩)
  exact .inr ⟨h1,y,hy,h2⟩
theorem O4 {t:Nat}{x:Int}:∀ {l:List Aa} {k:Nat} {P:List (List Int)},(∀b∈l,∀e∈b.qb.to,e.block.toNat<P.length)->
  (x∈((Hk k l P)[t]?.getD [])↔x∈(P[t]?.getD [])\/∃(i:Nat) (b:Aa),l[i]? =some b/\x=((k+i:Nat):Int)/\∃e∈b.qb.to,e.block.toNat=t)
 | [],k,P,_=>by simp [Hk]
 | b::l,k,P,h=>by
  have hb:=h b (Yb ..);rw [Hk,O4 (k:=k+1) (P:=HT k P b) λc hc e he=>by rw [HT,Hm];exact h c (Yd _ hc) e he];rw [HT,O3 hb];constructor
  .rintro ((h1 | ⟨h1,h2⟩) | ⟨i,c,hc,h1,h2⟩)
   .exact .inl h1
   .exact .inr ⟨0,b,rfl,h1,h2⟩
   exact .inr ⟨i+1,c,by simpa using hc,by rw [h1];congr 1;omega,h2⟩
  rintro(h1 | ⟨i,c,hc,h1,h2⟩)
  .exact .inl (.inl h1)
  cases i with
  | zero=>
   simp at hc;subst hc;exact .inl (.inr ⟨h1,h2⟩)
  | succ i=>exact .inr ⟨i,c,by simpa using hc,by rw [h1];congr 1;omega,h2⟩
theorem IS {bs:List Aa}(hE:∀b∈bs,∀e∈b.qb.to,1<=e.block/\e.block<bs.length){t:Nat}{x:Int}:x∈((CV bs)[t]?.getD [])↔∃p:Nat,x=p/\Edge bs p t:=by
 rw [CV,O4 λb hb e he=>by have:=hE b hb e he;rw [Yq];omega];constructor
 .rintro (h | ⟨i,b,hb,h1,e,he,h2⟩)
  .rw [Yad] at h;split at h <;> simp at h
  exact⟨i,by rw [h1];congr 1;omega,e,by rw [Bz hb];exact he,h2⟩
 rintro⟨p,rfl,e,he,h2⟩;right;unfold Gr at he
 cases hb:bs[p]? with
 | none=>rw [hb] at he;cases he
 | some b=>rw [hb] at he;exact⟨p,b,hb,by congr 1;omega,e,he,h2⟩
def gI (l:List Int)(i:Int):Int:=l[i.toNat]?.getD 0
def AaP (ov pl:List Int):Nat->Int->Int->Int
 | 0,a,_=>a
 | n+1,a,b=>if a=b then a else if gI pl a>gI pl b then AaP ov pl n (gI ov a) b else AaP ov pl n a (gI ov b)
def Agi (ov pl:List Int)(p:Int):Bool:=decide (gI pl p<0)||(decide (p≠0)&&decide (gI ov p<0))
def Ael (ov pl:List Int)(m:Nat):Int->List Int->Int
 | cur,[]=>cur
 | cur,p::ps=>Ael ov pl m (if Agi ov pl p then cur else if cur<0 then p else AaP ov pl m cur p) ps
def Ju (ord:List Int)(n:Nat):List Int:=(Yz n).map λk:Nat=>idxOf (λ x=>decide ((k:Int)=x)) ord
structure AgP where
 ov:List Int
 again:Bool
def If (bs:List Aa):List Int:=(AJ bs).map λk:Nat=>(k:Int)
def Jv (bs:List Aa):List Int:=Ju (If bs) bs.length
theorem VG {l:List Nat}{v:Nat}:idxOf (λ x=>decide ((v:Int)=x)) (l.map λk:Nat=>(k:Int))= -1/\v∉l\/∃i,idxOf (λ x=>decide ((v:Int)=x)) (l.map λk:Nat=>(k:Int))=(i:Nat)/\l[i]? =some v:=by
 rcases GO (λ x=>decide ((v:Int)=x)) (l.map λk:Nat=>(k:Int)) with ⟨h1,h2⟩ | ⟨i,x,h1,h2,h3,_⟩
 .refine .inl ⟨h1,λhm=> ?_⟩;rw [Yao] at h2;exact h2 (v:Int) (Yg.2 ⟨v,hm,rfl⟩) (by simp)
 refine .inr ⟨i,h1,?_⟩;rw [Yn] at h2;obtain ⟨w,hw,rfl⟩:=Option.map_eq_some_iff.1 h2;rw [hw];have:(v:Int)=(w:Int):=by simpa using h3
 congr 1
 omega
theorem Xo {bs:List Aa}{v:Nat}(hv:v<bs.length):gI (Jv bs) v= -1/\v∉AJ bs\/∃i,gI (Jv bs) v=(i:Nat)/\(AJ bs)[i]? =some v:=by
 have:gI (Jv bs) v=idxOf (λ x=>decide ((v:Int)=x)) (If bs):=by
  unfold gI Jv Ju;rw [Ybp,Yn,Yba hv];rfl
 rw [this];exact VG
def pos (bs:List Aa)(v:Nat):Nat:=(gI (Jv bs) v).toNat
section
variable {bs:List Aa}(ho:Dx bs (AJ bs))
include ho
theorem Ig {v:Nat}(hv:v∈AJ bs):gI (Jv bs) v=(pos bs v:Nat)/\(AJ bs)[pos bs v]? =some v:=by
 rcases Xo (ho.lt v hv) with ⟨_,h⟩ | ⟨i,h1,h2⟩
 .exact absurd hv h
 unfold pos;rw [h1,Ybp];exact ⟨rfl,h2⟩
theorem Ui {v i:Nat}(h:(AJ bs)[i]? =some v):pos bs v=i:=by
 have:=(Ig ho (Ya h)).2;exact (List.getElem?_inj (Yc.1 this).1 ho.nodup).1 (this.trans h.symm)
theorem Ada {v w:Nat}(hv:v∈AJ bs)(hw:w∈AJ bs)(h:pos bs v=pos bs w):v=w:=by
 have h1:=(Ig ho hv).2;have h2:=(Ig ho hw).2;rw [h,h2] at h1;injection h1 with h1;exact h1.symm
theorem Ae2 {v:Nat}(hv:v∈AJ bs):pos bs v<bs.length:=by
 have:=(Yc.1 (Ig ho hv).2).1;have:=EQ ho.nodup ho.lt;omega
theorem Hn:0∈AJ bs:=Ya ho.zero
theorem Ae3 {v:Nat}(hv:v∈AJ bs)(h0:v≠0):∃p,p∈AJ bs/\pos bs p<pos bs v/\Edge bs p v:=by
 obtain⟨i,p,hi,hp,he⟩:=ho.par _ v (Ig ho hv).2 h0;exact ⟨p,Ya hp,by rw [Ui ho hp];exact hi,he⟩
open Classical in
omit ho in
noncomputable def pi (bs:List Aa)(v:Nat):Nat:=if h:∃p,p∈AJ bs/\pos bs p<pos bs v/\Edge bs p v then Classical.choose h else 0
end
inductive Anc (ov:List Int):Nat->Nat->Prop where
 | refl (a:Nat):Anc ov a a
 | step {a q x:Nat}:ov[a]? =some (q:Int)->Anc ov q x->Anc ov a x
inductive RP (bs:List Aa):Nat->Nat->Prop where
 | refl (a:Nat):RP bs a a
 | step {a x:Nat}:a≠0->RP bs (pi bs a) x->RP bs a x
theorem Anc.trans {ov:List Int}{a b c:Nat}(h:Anc ov a b)(k:Anc ov b c):Anc ov a c:=by
 induction h with
 | refl=>exact k
 | step h _ ih=>exact .step h (ih k)
structure MY (bs:List Aa)(ov:List Int):Prop where
 len:ov.length=bs.length
 root:ov[0]? =some (-1)
 out:∀v,v<bs.length->v∉AJ bs->ov[v]? =some (-1)
 up:∀(v:Nat) (x:Int),v∈AJ bs->v≠0->ov[v]? =some x->0<=x->∃q:Nat,x=q/\q∈AJ bs/\pos bs q<pos bs v/\(q=0\/∃y:Int,ov[q]? =some y/\0<=y)
 low:∀(v:Nat) (x:Int),ov[v]? =some x->x<0->x= -1
def InT (bs:List Aa)(ov:List Int)(v:Nat):Prop:=v∈AJ bs/\(v=0\/∃x:Int,ov[v]? =some x/\0<=x)
section
variable {bs:List Aa}(ho:Dx bs (AJ bs)){ov:List Int}
include ho
theorem MY.parent (h:MY bs ov){v:Nat}(hv:InT bs ov v)(h0:v≠0):∃q:Nat,ov[v]? =some (q:Int)/\InT bs ov q/\pos bs q<pos bs v:=by
 obtain⟨hm,hv⟩:=hv;rcases hv with hv | ⟨x,hx,hx0⟩
 .exact absurd hv h0
 obtain⟨q,rfl,h1,h2,h3⟩:=h.up v x hm h0 hx hx0;exact ⟨q,hx,⟨h1,h3⟩,h2⟩
theorem MY.anc (h:MY bs ov){v x:Nat}(hv:InT bs ov v)(ha:Anc ov v x):InT bs ov x/\pos bs x<=pos bs v/\(x≠v->pos bs x<pos bs v):=by
 induction ha with
 | refl a=>exact⟨hv,Ybh _,λh=>absurd rfl h⟩
 | @step a q x hq _ ih=>
  by_cases h0:a=0
  .subst h0;rw [h.root] at hq;injection hq with hq;omega
  obtain⟨q',hq',hi,hp⟩:=h.parent ho hv h0;rw [hq] at hq';injection hq' with hq';have:q=q':=by omega
  subst this;have:=ih hi;exact ⟨this.1,by omega,λ_=>by omega⟩
theorem MY.zero (h:MY bs ov){x:Nat}(ha:Anc ov 0 x):x=0:=by
 cases ha with
 | refl=>rfl
 | step hq _=>
  rw [h.root] at hq;injection hq with hq;omega
theorem MY.cases (h:MY bs ov){v q x:Nat}(hq:ov[v]? =some (q:Int))(ha:Anc ov v x):x=v\/Anc ov q x:=by
 cases ha with
 | refl=>exact .inl rfl
 | @step _ q' _ hq' k=>
  rw [hq] at hq';injection hq' with hq';have:q=q':=by omega
  subst this;exact .inr k
theorem MY.chain (h:MY bs ov){v x y:Nat}(hv:InT bs ov v)(hx:Anc ov v x)(hy:Anc ov v y)(hp:pos bs x<=pos bs y):Anc ov y x:=by
 induction hx with
 | refl a=>
  have:=h.anc ho hv hy;have:pos bs y=pos bs a:=by omega
  rw [Ada ho (h.anc ho hv hy).1.1 hv.1 this];exact .refl _
 | @step a q x hq ha ih=>
  by_cases h0:a=0
  .subst h0;rw [h.root] at hq;injection hq with hq;omega
  obtain⟨q',hq',hi,_⟩:=h.parent ho hv h0;rw [hq] at hq';injection hq' with hq';have:q=q':=by omega
  subst this;rcases h.cases ho hq hy with rfl | hy
  .exact .step hq ha
  exact ih hi hy hp
theorem Ae4 {l:List Int}{v:Nat}{x:Int}(h:l[v]? =some x):gI l v=x:=by rw [gI,Ybp,h];rfl
theorem InT.fuel {v:Nat}(h:InT bs ov v):pos bs v<bs.length:=Ae2 ho h.1
end
structure AgQ (bs:List Aa)(ov:List Int)(i:Nat):Prop where
 tree:MY bs ov
 done:∀(j v:Nat),j<i->(AJ bs)[j]? =some v->InT bs ov v
 down:∀(v w:Nat),InT bs ov v->w∈AJ bs->pos bs w<pos bs v->InT bs ov w
 anc:∀(v x:Nat),InT bs ov v->Anc ov v x->RP bs v x
 most:∀(v q:Nat),InT bs ov v->v≠0->ov[v]? =some (q:Int)->∀y,(∀p,Edge bs p v->InT bs ov p->Anc ov p y)->pos bs y<=pos bs q
 past:∀(v:Nat),v∈AJ bs->pos bs v<i->∀q x,RP bs v q->Anc ov v x->pos bs x<=pos bs q->Anc ov q x
theorem RP.ne {bs:List Aa}{v x:Nat}(h:RP bs v x)(hx:x≠v):v≠0/\RP bs (pi bs v) x:=by
 cases h with
 | refl=>exact absurd rfl hx
 | step h0 k=>exact⟨h0,k⟩
def hW (bs:List Aa)(x:Int):Nat:=if x<0 then bs.length else pos bs x.toNat
section
variable {bs:List Aa}(ho:Dx bs (AJ bs))(hE:∀b∈bs,∀e∈b.qb.to,1<=e.block/\e.block<bs.length){ov:List Int}
include ho
theorem J4 {p v:Nat}(hp:p∈AJ bs)(he:Edge bs p v):v∈AJ bs:=ho.closed p hp v he
structure AgR (bs:List Aa)(ov:List Int):Prop where
 inv:AgQ bs ov 1
 all:∀v,v∈AJ bs->InT bs ov v
 fix:∀v,v∈AJ bs->v≠0->gI ov v=Ael ov (Jv bs) (2*bs.length+1) (-1) ((CV bs)[v]?.getD [])
end
section
variable {bs:List Aa}(ho:Dx bs (AJ bs)){ov:List Int}
include ho
structure Up (bs:List Aa)(ov:List Int)(a:Nat)(l:List Int)(k:Int)(n:Nat):Prop where
 len:l.length=n
 at_:k= -1\/∃v:Nat,k=v/\InT bs ov v/\n+pos bs v<=pos bs a
 mem:∀y:Nat,Anc ov a y↔(y:Int)∈l\/∃v:Nat,k=v/\Anc ov v y
 le:n<=bs.length
omit ho in
structure Ag0 (bs:List Aa)(ov:List Int)(a b:Nat)(v n:Nat):Prop where
 at_:Anc ov b v
 bound:n+pos bs v<=pos bs b
 none:∀y,Anc ov b y->pos bs v<pos bs y->¬Anc ov a y
omit ho in
end
def B9 (f:Ai):List Int:=(If f.qa).mergeSort λx y=>decide (x<=y)
theorem Xp {f:Ai}{v:Nat}:(v:Int)∈B9 f↔v∈AJ f.qa:=by
 unfold B9;rw [List.mem_mergeSort,If,Yg];constructor
 .rintro ⟨k,hk,e⟩;have:k=v:=by omega
  rwa [<- this]
 intro h;exact ⟨v,h,rfl⟩
theorem Xq (f:Ai):(B9 f).length=(AJ f.qa).length:=by rw [B9,List.length_mergeSort,If,Yh]
section
variable {bs:List Aa}(ho:Dx bs (AJ bs)){ov:List Int}
include ho
end
section
variable {bs:List Aa}(ho:Dx bs (AJ bs)){ov:List Int}
include ho
end
theorem HI {n:Nat}{d d':Dom}(h:Ku n d d')(ha:d'.again=false):d'=d:=by
 rcases h.2 with h | ⟨h,_⟩
 .exact h
 rw [ha] at h;cases h
theorem O5 {n k:Nat}(hk:k<n):∀ {l:List Am} {d:Dom},CQ n d->(∀e∈l,1<=e.block/\e.block<n)->(l.foldl (Bj k) d).again=false->l.foldl (Bj k) d=d/\∀e∈l,Bj k d e=d
 | [],d,_,_,_=>⟨rfl,λe he=>by cases he⟩
 | e::l,d,ok,h,ha=>by
  have h1:=Fa ok hk (h e (Yb ..)).1 (h e (Yb ..)).2;have hl:=λx hx=>h x (Yd e hx);have h2:=QH hk h1.1 hl;rw [Yp] at ha ⊢;have e2:=HI h2 ha;have e1:Bj k d e=d:=HI h1 (by rw [<- e2];exact ha);rw [e1] at ha ⊢;obtain ⟨g1,g2⟩:=O5 hk ok hl ha;refine ⟨g1,λx hx=> ?_⟩;rcases Ye.1 hx with rfl | hx
  .exact e1
  exact g2 x hx
theorem Xr {n k:Nat}{b:Aa}{d:Dom}(hk:k<n)(ok:CQ n d)(h:∀e∈b.qb.to,1<=e.block/\e.block<n)(ha:(BJ d k b).again=false):BJ d k b=d/\(d.seen.has k=true->∀e∈b.qb.to,Bj k d e=d):=by
 unfold BJ at ha ⊢;split
 .rename_i hs;rw [if_pos hs] at ha;obtain ⟨h1,h2⟩:=O5 hk ok h ha;exact ⟨h1,λ_=>h2⟩
 rename_i hs;exact ⟨rfl,λh=>absurd h hs⟩
theorem RQ {n:Nat}:∀ {l:List Aa} {k:Nat} {d:Dom},k+l.length=n->CQ n d->(∀b∈l,∀e∈b.qb.to,1<=e.block/\e.block<n)->(Ca k l d).again=false->
  ∀(j:Nat) (b:Aa),l[j]? =some b->d.seen.has (k+j)=true->∀e∈b.qb.to,Bj (k+j) d e=d
 | [],k,d,_,_,_,_,j,b,hb=>by simp at hb
 | c::l,k,d,hl,ok,h,ha,j,b,hb=>by
  have hl':k+(l.length+1)=n:=hl;have h1:=I1 (k:=k) (by omega) ok (h c (Yb ..));have hr:=λx hx=>h x (Yd c hx);have h2:=Lj (l:=l) (k:=k+1) (by omega) h1.1 hr;rw [Ca] at ha;have e2:=HI h2 ha;have ha1:(BJ d k c).again=false:=by rw [<- e2];exact ha
  obtain⟨e1,g⟩:=Xr (by omega) ok (h c (Yb ..)) ha1;rw [e1] at ha
  cases j with
  | zero=>
   simp at hb;subst hb;exact g
  | succ j=>
   simp at hb;have:=RQ (by omega) ok hr ha j b hb
   rwa [show k+1+j=k+(j+1) by omega] at this
structure Qn (bs:List Aa)(d:Dom):Prop where
 ok:CQ bs.length d
 seen0:d.seen.has 0=true
 at0:d.at 0=BN.with E1 0
 fix:∀(k:Nat) (b:Aa),bs[k]? =some b->d.seen.has k=true->∀e∈b.qb.to,Bj k d e=d
def LV (n:Nat)(d:Dom):Prop:=d.seen.has 0=true/\d.at 0=BN.with E1 0
theorem Ae5 {n k:Nat}{d:Dom}{e:Am}(ok:CQ n d)(h1:1<=e.block)(h2:e.block<n)(hz:LV n d):LV n (Bj k d e):=by
 unfold Bj;dsimp only;have hn:=ok.le;split
 .refine ⟨?_,?_⟩
  .rw [Cs _ (by omega) (by omega),hz.1];rfl
  rw [UO (by rw [ok.len];omega),if_neg (by omega)];exact hz.2
 exact hz
theorem VH {n k:Nat}(hk:k<n):∀ {l:List Am} {d:Dom},CQ n d->(∀e∈l,1<=e.block/\e.block<n)->LV n d->LV n (l.foldl (Bj k) d)
 | [],d,_,_,hz=>hz
 | e::l,d,ok,h,hz=>by
  have he:=h e (Yb ..);show LV n (l.foldl (Bj k) (Bj k d e));exact VH (l:=l) hk (Fa ok hk he.1 he.2).1 (λ x hx=>h x (Yd e hx)) (Ae5 ok he.1 he.2 hz)
theorem Adb {n k:Nat}{b:Aa}{d:Dom}(hk:k<n)(ok:CQ n d)(h:∀e∈b.qb.to,1<=e.block/\e.block<n)(hz:LV n d):LV n (BJ d k b):=by
 unfold BJ;split
 .exact VH hk ok h hz
 exact hz
theorem AaQ {n:Nat}:∀ {l:List Aa} {k:Nat} {d:Dom},k+l.length=n->CQ n d->(∀b∈l,∀e∈b.qb.to,1<=e.block/\e.block<n)->LV n d->LV n (Ca k l d)
 | [],k,d,_,_,_,hz=>hz
 | c::l,k,d,hl,ok,h,hz=>by
  have hl':k+(l.length+1)=n:=hl;show LV n (Ca (k+1) l (BJ d k c));exact AaQ (l:=l) (by omega) (I1 (k:=k) (by omega) ok (h c (Yb ..))).1 (λ x hx=>h x (Yd c hx)) (Adb (by omega) ok (h c (Yb ..)) hz)
theorem Ly {bs:List Aa}(h:∀b∈bs,∀e∈b.qb.to,1<=e.block/\e.block<bs.length):∀(n:Nat) (d:Dom),CQ bs.length d->LV bs.length d->FN bs.length d+(if d.again then 1 else 0)<=n->(d.again=false->Qn bs d)->Qn bs (DJ bs n d)
 | 0,d,ok,hz,hw,hf=>by
  cases ha:d.again with
  | false=>exact hf ha
  | true=>rw [ha,if_pos rfl] at hw;omega
 | n+1,d,ok,hz,hw,hf=>by
  cases ha:d.again with
  | false=>rw [DJ,if_neg (by rw [ha];decide)];exact hf ha
  | true=>
   obtain⟨n',e,h1,h2,h3⟩:=round ok h hw ha;have:n=n':=by omega
   subst this;have ok0:CQ bs.length { d with again:=false }:=⟨ok.len,ok.le,ok.self⟩;have hz1:LV bs.length (Ca 0 bs { d with again:=false }):=AaQ (by omega) ok0 h hz;rw [h1];refine Ly h n _ h2 hz1 h3 λha2=> ?_;have e2:=HI (Lj (l:=bs) (k:=0) (by omega) ok0 h) ha2;have hfx:=RQ (l:=bs) (k:=0) (by omega) ok0 h ha2;rw [e2] at hz1 ⊢;exact ⟨ok0,hz1.1,hz1.2,λk b hb hs=>by have:=hfx k b hb (by rw [Ybi];exact hs);rwa [Ybi] at this⟩
theorem VI {bs:List Aa}(h0:0<bs.length)(hn:bs.length<=128)(h:∀b∈bs,∀e∈b.qb.to,1<=e.block/\e.block<bs.length):Qn bs (B8 bs):=by
 refine Ly h _ _ (Kv h0 hn) ⟨?_,?_⟩ ?_ λh=>by cases h
 .show (BN.with E1 0).has 0=true;rw [Cs _ (by omega) (by omega)];simp
 .unfold CU Dom.at;rw [Yr,if_pos rfl,if_pos (by simpa using h0)];rfl
 have:=Wi bs.length;have ha:(CU bs.length).again=true:=rfl;rw [ha,if_pos rfl,L3];omega
inductive Way (bs:List Aa):List Nat->Nat->Prop where
 | start:Way bs [] 0
 | step {l:List Nat} {p k:Nat}:Way bs l p->Edge bs p k->Way bs (p::l) k
theorem VJ {bs:List Aa}{d:Dom}(hd:Qn bs d)(h:∀b∈bs,∀e∈b.qb.to,1<=e.block/\e.block<bs.length){l:List Nat}{k:Nat}(hw:Way bs l k):d.seen.has k=true/\k<128/\∀j,j<128->(d.at k).has j=true->j=k\/j∈l:=by
 induction hw with
 | start=>
  refine⟨hd.seen0,by omega,λj hj hh=> ?_⟩;rw [hd.at0,Cs _ (by omega) hj,UN,Bool.false_or,decide_eq_true_eq] at hh;exact .inl hh
 | @step l p k hw he ih=>
  obtain⟨hs,hp,ih⟩:=ih;obtain ⟨e,hem,rfl⟩:=he
  obtain⟨b,hb,hem⟩:∃b,bs[p]? =some b/\e∈b.qb.to:=by
   unfold Gr at hem
   cases hb:bs[p]? with
   | none=>rw [hb] at hem;cases hem
   | some b=>rw [hb] at hem;exact⟨b,rfl,hem⟩
  have hr:=h b (Ya hb) e hem;have hn:=hd.ok.le;have ht:e.block.toNat<128:=by omega
  have hfx:=hd.fix p b hb hs e hem;unfold Bj at hfx;dsimp only at hfx;split at hfx
  .rename_i hc
   -- a change cannot leave all as it was
   exfalso
   have h1:(d.over.set e.block.toNat (((d.at e.block.toNat).both (d.at p)).with e.block.toNat))[e.block.toNat]? =d.over[e.block.toNat]? :=by
    have:=congrArg Dom.over hfx;dsimp only at this;rw [this]
   have h2:=congrArg Dom.seen hfx;dsimp only at h2;rcases hc with hc | hc
   .rw [Yr,if_pos rfl,if_pos (by rw [hd.ok.len];omega)] at h1;have h3:d.at e.block.toNat=((d.at e.block.toNat).both (d.at p)).with e.block.toNat:=(congrArg (λ o:Option BN=>o.getD E1) h1).symm;exact hc h3.symm
   rw [<- h2,Cs _ ht ht] at hc;simp at hc
  rename_i hc;rw [not_or] at hc;obtain ⟨h1,h2⟩:=hc;have h1:=Classical.not_not.1 h1;refine ⟨by simpa using h2,ht,λj hj hh=> ?_⟩;rw [<- h1,Cs _ ht hj,NL,Bool.or_eq_true,Bool.and_eq_true,decide_eq_true_eq] at hh;rcases hh with hh | hh
  .rcases ih j hj hh.2 with h3 | h3
   .exact .inr (by rw [h3];exact Yb ..)
   exact .inr (Yd _ h3)
  exact .inl hh
def MZ (bs:List Aa)(x v:Nat):Prop:=∀l,Way bs l v->x=v\/x∈l
theorem Xs {bs:List Aa}{x p v:Nat}(h:MZ bs x v)(hx:x≠v)(he:Edge bs p v):MZ bs x p:=λl hl=>by
 rcases h _ (.step hl he) with e | e
 .exact absurd e hx
 rcases Ye.1 e with e | e
 .exact .inl e
 exact .inr e
section
variable {bs:List Aa}(ho:Dx bs (AJ bs))(hE:∀b∈bs,∀e∈b.qb.to,1<=e.block/\e.block<bs.length){ov:List Int}
include ho
end
theorem Xt {f:Ai}(hf:CA f){l:List Nat}{v:Nat}(hw:Way f.qa l v):v∈AJ f.qa:=by
 have ho:=Dj hf.pos hf.edges
 induction hw with
 | start=>exact Hn ho
 | step hw he ih=>exact J4 ho ih he
theorem O6 {f:Ai}(hf:CA f):∀(n v:Nat),pos f.qa v<n->v∈AJ f.qa->∃l,Way f.qa l v
 | 0,v,hn,_=>by omega
 | n+1,v,hn,hv=>by
  have ho:=Dj hf.pos hf.edges
  by_cases h0:v=0
  .subst h0;exact⟨[], .start⟩
  obtain⟨p,hp,hlt,he⟩:=Ae3 ho hv h0;obtain ⟨l,hl⟩:=O6 hf n p (by omega) hp;exact ⟨p::l, .step hl he⟩
theorem K1 {f:Ai}(hf:CA f){v:Nat}:v∈AJ f.qa↔∃l,Way f.qa l v:=⟨λ h=>O6 hf _ v (Nat.lt_succ_self _) h,λ⟨l,h⟩=>Xt hf h⟩
structure DL (bs:List Aa)(d:Dom):Prop where
 most:∀k j:Nat,k<bs.length->j<bs.length->MZ bs j k->(d.at k).has j=true
 seen:∀k:Nat,k<128->d.seen.has k=true->∃l,Way bs l k
theorem Uj {bs:List Aa}(h0:0<bs.length)(hn:bs.length<=128):DL bs (CU bs.length):=by
 refine⟨λ k j hk hj hd=> ?_,λk hk hs=> ?_⟩
 .unfold CU Dom.at;dsimp only;rw [Yr];split
  .rename_i e;subst e;rw [if_pos (by simpa using h0)];rcases hd [] .start with e | e
   .subst e;show (BN.with E1 0).has 0=true;rw [Cs _ (by omega) (by omega)];simp
   cases e
  rw [Yad,if_pos hk];show (Ea bs.length).has j=true;rw [QG _ hn j (by omega)];exact decide_eq_true hj
 have hs:(BN.with E1 0).has k=true:=hs;rw [Cs _ (by omega) hk,UN,Bool.false_or,decide_eq_true_eq] at hs;subst hs;exact ⟨[], .start⟩
theorem Xu {bs:List Aa}(hn:bs.length<=128){d:Dom}(ok:CQ bs.length d){k:Nat}{e:Am}(hk:k<bs.length)(he:e∈Gr bs k)(h1:1<=e.block)(h2:e.block<bs.length)(hs:d.seen.has k=true)(h:DL bs d):DL bs (Bj k d e):=by
 unfold Bj;dsimp only;have hte:Edge bs k e.block.toNat:=⟨e,he,rfl⟩;split
 .refine ⟨λ v j hv hj hd=> ?_,λv hv hsv=> ?_⟩
  .rw [UO (by rw [ok.len];omega)];split
   .rename_i e1;subst e1;rw [Cs _ (by omega) (by omega),NL]
    by_cases hjt:j=e.block.toNat
    .rw [decide_eq_true hjt,Bool.or_true]
    rw [h.most _ j hv hj hd,h.most k j hk hj (Xs hd hjt hte)];rfl
   exact h.most v j hv hj hd
  have hsv:(d.seen.with e.block.toNat).has v=true:=hsv;rw [Cs _ (by omega) hv,Bool.or_eq_true,decide_eq_true_eq] at hsv;rcases hsv with hsv | rfl
  .exact h.seen v hv hsv
  obtain⟨l,hl⟩:=h.seen k (by omega) hs;exact ⟨_, .step hl hte⟩
 exact h
theorem Xv {n k:Nat}{d:Dom}{e:Am}(hn:n<=128)(hk:k<n)(h1:1<=e.block)(h2:e.block<n)(hs:d.seen.has k=true):(Bj k d e).seen.has k=true:=by
 unfold Bj;dsimp only;split
 .rw [Cs _ (by omega) (by omega),hs];rfl
 exact hs
theorem M0 {bs:List Aa}(hn:bs.length<=128){k:Nat}(hk:k<bs.length):∀ {l:List Am} {d:Dom},CQ bs.length d->(∀e∈l,e∈Gr bs k)->(∀e∈l,1<=e.block/\e.block<bs.length)->d.seen.has k=true->DL bs d->DL bs (l.foldl (Bj k) d)
 | [],d,_,_,_,_,h=>h
 | e::l,d,ok,hl,hb,hs,h=>by
  have he:=hb e (Yb ..);show DL bs (l.foldl (Bj k) (Bj k d e));exact M0 hn hk (l:=l) (Fa ok hk he.1 he.2).1 (λ x hx=>hl x (Yd _ hx)) (λ x hx=>hb x (Yd _ hx)) (Xv hn hk he.1 he.2 hs) (Xu hn ok hk (hl e (Yb ..)) he.1 he.2 hs h)
theorem Uk {bs:List Aa}(hn:bs.length<=128){k:Nat}{b:Aa}{d:Dom}(hb:bs[k]? =some b)(ok:CQ bs.length d)(hE:∀e∈b.qb.to,1<=e.block/\e.block<bs.length)(h:DL bs d):DL bs (BJ d k b):=by
 unfold BJ;split
 .rename_i hs;exact M0 hn (Yc.1 hb).1 ok (λ e he=>by rw [Bz hb];exact he) hE hs h
 exact h
theorem O7 {bs:List Aa}(hn:bs.length<=128)(hE:∀b∈bs,∀e∈b.qb.to,1<=e.block/\e.block<bs.length):∀ {l:List Aa} {k:Nat} {d:Dom},bs.drop k=l->CQ bs.length d->DL bs d->DL bs (Ca k l d)
 | [],k,d,_,_,h=>h
 | c::l,k,d,hl,ok,h=>by
  have hb:bs[k]? =some c:=by
   have h9:(bs.drop k)[0]? =some c:=by rw [hl];rfl
   rwa [Yai,Ybj] at h9
  have hl2:bs.drop (k+1)=l:=by
   have h9:(bs.drop k).drop 1=l:=by rw [hl];rfl
   rwa [Ybb] at h9
  have hk:=(Yc.1 hb).1;have hc:=hE c (Ya hb);show DL bs (Ca (k+1) l (BJ d k c));exact O7 hn hE hl2 (I1 hk ok hc).1 (Uk hn hb ok hc h)
theorem O8 {bs:List Aa}(hn:bs.length<=128)(hE:∀b∈bs,∀e∈b.qb.to,1<=e.block/\e.block<bs.length):∀(n:Nat) (d:Dom),CQ bs.length d->DL bs d->DL bs (DJ bs n d)
 | 0,d,_,h=>h
 | n+1,d,ok,h=>by
  rw [DJ];split
  .have ok0:CQ bs.length { d with again:=false }:=⟨ok.len,ok.le,ok.self⟩;exact O8 hn hE n _ (Lj (l:=bs) (k:=0) (by omega) ok0 hE).1 (O7 hn hE rfl ok0 ⟨h.most,h.seen⟩)
  exact h
theorem RR {bs:List Aa}(h0:0<bs.length)(hn:bs.length<=128)(hE:∀b∈bs,∀e∈b.qb.to,1<=e.block/\e.block<bs.length):DL bs (B8 bs):=O8 hn hE _ _ (Kv h0 hn) (Uj h0 hn)
theorem Bi {bs:List Aa}(h0:0<bs.length)(hn:bs.length<=128)(hE:∀b∈bs,∀e∈b.qb.to,1<=e.block/\e.block<bs.length){k j:Nat}(hk:∃l,Way bs l k)(hkl:k<bs.length)(hj:j<bs.length):((B8 bs).at k).has j=true↔MZ bs j k:=
 ⟨λ h l hw=>(VJ (VI h0 hn hE) hE hw).2.2 j (by omega) h,(RR h0 hn hE).most k j hkl hj⟩
theorem M2 {bs:List Aa}(h0:0<bs.length)(hn:bs.length<=128)(hE:∀b∈bs,∀e∈b.qb.to,1<=e.block/\e.block<bs.length){k:Nat}(hk:k<128):(B8 bs).seen.has k=true↔∃l,Way bs l k:=
 ⟨(RR h0 hn hE).seen k hk,λ⟨l,hw⟩=>(VJ (VI h0 hn hE) hE hw).1⟩
abbrev keys (d:BB):List Int:=d.map (·.1)
structure KOk (d new:BB):Prop where
 wi:∀x∈keys new,wi x 0 4095=true
 nodup:(keys new).Nodup
 fresh:∀x∈keys new,x∉keys d
theorem Qo (d:BB):KOk d []:=⟨by simp,by simp,by simp⟩
theorem HJ {d a b:BB}:KOk d (a++b)↔KOk d a/\KOk (d++a) b:=by
 constructor
 .rintro ⟨h1,h2,h3⟩;simp only [keys,Yaa] at h1 h2 h3;obtain ⟨n1,n2,n3⟩:=Yah.1 h2;refine ⟨⟨λ x hx=>h1 x (Yag _ hx),n1,λx hx=>h3 x (Yag _ hx)⟩,⟨λ x hx=>h1 x (Yan _ hx),n2,λx hx=> ?_⟩⟩;simp only [keys,Yaa,Yv,not_or];exact ⟨h3 x (Yan _ hx),λhm=>n3 x hm x hx rfl⟩
 rintro⟨⟨a1,a2,a3⟩,⟨b1,b2,b3⟩⟩;simp only [keys,Yaa] at b3;refine ⟨λ x hx=> ?_,?_,λx hx=> ?_⟩ <;> simp only [keys,Yaa] at*
 .rcases Yv.1 hx with h | h
  .exact a1 x h
  exact b1 x h
 .exact Yah.2 ⟨a2,b2,λx hx y hy e=>by subst e;exact b3 x hy (Yan _ hx)⟩
 rcases Yv.1 hx with h | h
 .exact a3 x h
 exact λhm=>b3 x h (Yag _ hm)
theorem VK {d:BB}{v:Int}{p:Int×Int}:KOk d [(v,p)]↔wi v 0 4095=true/\v∉keys d:=by
 constructor
 .rintro ⟨h1,_,h3⟩;exact ⟨h1 v (by simp),h3 v (by simp)⟩
 rintro⟨h1,h2⟩;exact ⟨λ x hx=>by simp at hx;subst hx;exact h1,by simp,λx hx=>by simp at hx;subst hx;exact h2⟩
theorem J5 {v:Int}:∀ {d:BB},Cc d v=none↔v∉keys d
 | []=>by simp [Cc]
 | (k,p)::d=>by
  rw [Cc];split
  .rename_i e;subst e;simp
  rename_i e;rw [J5];simp only [keys,Yt,Ye,not_or];exact ⟨λ h=>⟨λ e2=>e e2.symm,h⟩,λh=>h.2⟩
theorem Gt {v:Int}{p:Int×Int}{d:BB}:(By v p d).1=0↔KOk d [(v,p)]:=by
 rw [VK];unfold By
 cases hw:wi v 0 4095 with
 | false=>simp
 | true=>
  rw [if_neg (by decide)]
  cases hd:Cc d v with
  | none=>
   rw [if_neg (by decide)];exact ⟨λ _=>⟨rfl,J5.1 hd⟩,λ_=>rfl⟩
  | some x=>
   rw [if_pos (show (some x).isSome=true from rfl)];have:¬v∉keys d:=λh=>by rw [J5.2 h] at hd;cases hd
   exact⟨λ h=>absurd (show (7:Int)=0 from h) (by decide),λh=>absurd h.2 this⟩
theorem O9 {v:Int}{p:Int×Int}{d:BB}(h:(By v p d).1=0):(By v p d).2=d++ [(v,p)]:=by
 have h2:=h;rw [Gt,VK] at h2;unfold By;rw [if_neg (by rw [h2.1];decide),J5.2 h2.2,if_neg (by decide)]
theorem M3 {k:Int}:∀ {ps:List Int} {d:BB},((BH k ps d).1=0↔KOk d (GE k ps))/\((BH k ps d).1=0->(BH k ps d).2=d++GE k ps)
 | [],d=>⟨⟨λ _=>Qo d,λ_=>rfl⟩,λ_=>by simp [BH,GE]⟩
 | p::ps,d=>by
  have hc:GE k (p::ps)= [(p,(k,0))]++GE k ps:=rfl;rw [hc,HJ,BH]
  by_cases h:(By p (k,0) d).1=0
  .rw [if_neg (λ h2=>h2 h)];have he:=O9 h;obtain ⟨h1,h2⟩:=M3 (k:=k) (ps:=ps) (d:=(By p (k,0) d).2);rw [he] at h1 h2;rw [he];exact ⟨⟨λ h3=>⟨Gt.1 h,h1.1 h3⟩,λh3=>h1.2 h3.2⟩,λh3=>by rw [h2 h3,Yj]⟩
  rw [if_pos h];exact ⟨⟨λ h3=>absurd h3 h,λh3=>absurd (Gt.2 h3.1) h⟩,λh3=>absurd h3 h⟩
theorem RS {k:Int}:∀ {is:List AQ} {n:Int} {d:BB},((Da k n is d).1=0↔KOk d (FX k n is)/\∀i∈is,FQ i=0)/\((Da k n is d).1=0->(Da k n is d).2=d++FX k n is)
 | [],n,d=>⟨⟨λ _=>⟨Qo d,λi hi=>by cases hi⟩,λ_=>rfl⟩,λ_=>by simp [Da,FX]⟩
 | i::is,n,d=>by
  have hc:FX k n (i::is)= [(i.to,(k,n+1))]++FX k (n+1) is:=rfl;rw [hc,HJ,Da]
  by_cases h:(By i.to (k,n+1) d).1=0
  .rw [if_neg (λ h2=>h2 h)];have he:=O9 h
   by_cases hf:FQ i=0
   .rw [if_neg (λ h2=>h2 hf)];obtain ⟨h1,h2⟩:=RS (k:=k) (is:=is) (n:=n+1) (d:=(By i.to (k,n+1) d).2);rw [he] at h1 h2;rw [he];refine ⟨⟨λ h3=> ?_,λh3=> ?_⟩,λh3=>by rw [h2 h3,Yj]⟩
    .have h4:=h1.1 h3;refine ⟨⟨Gt.1 h,h4.1⟩,λj hj=> ?_⟩;rcases Ye.1 hj with rfl | hj
     .exact hf
     exact h4.2 j hj
    exact h1.2 ⟨h3.1.2,λj hj=>h3.2 j (Yd _ hj)⟩
   rw [if_pos hf];exact ⟨⟨λ h3=>absurd h3 hf,λh3=>absurd (h3.2 i (Yb ..)) hf⟩,λh3=>absurd h3 hf⟩
  rw [if_pos h];exact ⟨⟨λ h3=>absurd h3 h,λh3=>absurd (Gt.2 h3.1.1) h⟩,λh3=>absurd h3 h⟩
theorem Xw {bs:List Aa}{k:Int}{b:Aa}{d:BB}:((Di bs k b d).1=0↔KOk d (IA k b)/\F8 bs b)/\((Di bs k b d).1=0->(Di bs k b d).2=d++IA k b):=by
 unfold Di IA F8;rw [HJ];obtain ⟨p1,p2⟩:=M3 (k:=k) (ps:=b.params) (d:=d)
 by_cases hp:(BH k b.params d).1=0
 .rw [if_neg (λ h=>h hp)];rw [p2 hp];obtain ⟨i1,i2⟩:=RS (k:=k) (is:=b.ins) (n:=0) (d:=d++GE k b.params)
  by_cases hi:(Da k 0 b.ins (d++GE k b.params)).1=0
  .rw [if_neg (λ h=>h hi)];dsimp only;rw [i2 hi];exact ⟨⟨λ h=>⟨⟨p1.1 hp,(i1.1 hi).1⟩,(i1.1 hi).2,h⟩,λh=>h.2.2⟩,λh=>Yj ..⟩
  rw [if_pos hi];exact ⟨⟨λ h=>absurd h hi,λh=>absurd (i1.2 ⟨h.1.2,h.2.1⟩) hi⟩,λh=>absurd h hi⟩
 rw [if_pos hp];exact ⟨⟨λ h=>absurd h hp,λh=>absurd (p1.2 h.1.1) hp⟩,λh=>absurd h hp⟩
theorem Jw {bs:List Aa}:∀ {l:List Aa} {k:Int} {d:BB},((Bv bs k l d).1=0↔KOk d (Bg k l)/\∀b∈l,F8 bs b)/\((Bv bs k l d).1=0->(Bv bs k l d).2=d++Bg k l)
 | [],k,d=>⟨⟨λ _=>⟨Qo d,λi hi=>by cases hi⟩,λ_=>rfl⟩,λ_=>by simp [Bv,Bg]⟩
 | b::l,k,d=>by
  rw [Bg,HJ,Bv];obtain ⟨b1,b2⟩:=Xw (bs:=bs) (k:=k) (b:=b) (d:=d)
  by_cases h:(Di bs k b d).1=0
  .rw [if_neg (λ h2=>h2 h),b2 h];obtain ⟨h1,h2⟩:=Jw (bs:=bs) (l:=l) (k:=k+1) (d:=d++IA k b);refine ⟨⟨λ h3=> ?_,λh3=> ?_⟩,λh3=>by rw [h2 h3,Yj]⟩
   .have h4:=h1.1 h3;refine ⟨⟨(b1.1 h).1,h4.1⟩,λj hj=> ?_⟩;rcases Ye.1 hj with rfl | hj
    .exact (b1.1 h).2
    exact h4.2 j hj
   exact h1.2 ⟨h3.1.2,λj hj=>h3.2 j (Yd _ hj)⟩
  rw [if_pos h];exact ⟨⟨λ h3=>absurd h3 h,λh3=>absurd (b1.2 ⟨h3.1.1,h3.2 b (Yb ..)⟩) h⟩,λh3=>absurd h3 h⟩
theorem J6 {v:Int}{p:Int×Int}:∀ {d:BB},(keys d).Nodup->(Cc d v=some p↔(v,p)∈d)
 | [],_=>by simp [Cc]
 | (k,q)::d,h=>by
  obtain⟨h1,h2⟩:=Yy.1 (show (k::keys d).Nodup from h);rw [Cc];split
  .rename_i e;subst e;constructor
   .intro e;injection e with e;subst e;exact Yb ..
   intro hm;rcases Ye.1 hm with e | hm
   .injection e with _ e;rw [e]
   exact absurd (Yg.2 ⟨_,hm,rfl⟩) h1
  rename_i e;rw [J6 h2];constructor
  .intro hm;exact Yd _ hm
  intro hm;rcases Ye.1 hm with e2 | hm
  .injection e2 with e2 _;exact absurd e2.symm e
  exact hm
def dI:Int->List AQ->List (Int×Int)
 | _,[]=> []
 | n,i::is=>(i.to,n+1)::dI (n+1) is
def dB (b:Aa):List (Int×Int):=b.params.map (λ p=>(p,0))++dI 0 b.ins
theorem RT (k:Int):∀(is:List AQ) (n:Int),FX k n is=(dI n is).map λe=>(e.1,(k,e.2))
 | [],n=>rfl
 | i::is,n=>by rw [FX,dI,Yt,RT k is]
theorem RU (k:Int)(b:Aa):IA k b=(dB b).map λe=>(e.1,(k,e.2)):=by
 unfold IA dB GE;rw [Yaa,Yaj,RT];rfl
theorem Ih {x:Int×Int×Int}:∀ {l:List Aa} {k:Int},x∈Bg k l↔∃(j:Nat) (b:Aa),l[j]? =some b/\x.2.1=k+j/\(x.1,x.2.2)∈dB b
 | [],k=>by simp [Bg]
 | c::l,k=>by
  rw [Bg,Yv,Ih (l:=l),RU,Yg];constructor
  .rintro (⟨e,he,rfl⟩ | ⟨j,b,hb,h1,h2⟩)
   .exact ⟨0,c,rfl,by simp,he⟩
   exact⟨j+1,b,by simpa using hb,by rw [h1];simp;omega,h2⟩
  rintro⟨j,b,hb,h1,h2⟩
  cases j with
  | zero=>
   have hb:c=b:=by simpa using hb
   subst hb;refine .inl ⟨_,h2,?_⟩;obtain ⟨a,b,e⟩:=x;have h1:b=k+(0:Nat):=h1;rw [show b=k by rw [h1];simp]
  | succ j=>exact .inr ⟨j,b,by simpa using hb,by rw [h1];simp;omega,h2⟩
theorem K2:∀(is:List AQ) (n:Int),(dI n is).length=is.length
 | [],n=>rfl
 | i::is,n=>by rw [dI,Yf,K2 is,Yf]
def CW:List Aa->Nat
 | []=>0
 | b::l=>b.ins.length+CW l
theorem Pa:∀(l:List Aa) (k:Int),keys (Bg k l)=l.flatMap λb=>(dB b).map (·.1)
 | [],k=>rfl
 | b::l,k=>by
  rw [Bg,keys,Yaa,Yak];have h:=Pa l (k+1);rw [keys] at h;rw [h,RU,Yaj];rfl
theorem VM:∀(l:List Aa),CW l<=(l.flatMap λb=>(dB b).map (·.1)).length
 | []=>Ybh _
 | b::l=>by
  have h:=VM l;rw [CW,Yak,Yi,Yh,dB,Yi,K2];omega
theorem RV {l:List Int}(h:l.Nodup)(hw:∀x∈l,wi x 0 4095=true):l.length<=4096:=by
 have h1:=EQ (l:=l.map Int.toNat) (n:=4096) ?_ λv hv=>by
  obtain⟨x,hx,rfl⟩:=Yg.1 hv;have:=C0.1 (hw x hx);omega
 .rwa [Yh] at h1
 .rw [List.Nodup,Ybc];refine List.Pairwise.imp_of_mem (λ {a c} ha hc hne e=>hne ?_) h;have h1:=C0.1 (hw a ha);have h2:=C0.1 (hw c hc);omega
theorem Ii:∀(l:List Aa) (n:Int),0<=n->n+CW l<=9223372036854775807->BX n l=n+CW l
 | [],n,_,_=>by simp [BX,CW]
 | b::l,n,h0,h=>by
  rw [CW] at h;rw [BX,CW];have e:IntKind.i64.wrap (n+b.ins.length)=n+b.ins.length:=by rw [IntKind.wrap_i64];omega
  rw [e,Ii l _ (by omega) (by omega)];omega
structure Ae6 (f:Ai):Prop where
 pos:0<f.qa.length
 len:f.qa.length<=128
 ins:CW f.qa<=1024
 params:(AI f.qa 0).length<=6
 name:wi f.name (-1) 1048575=true
 kok:KOk [] (Bg 0 f.qa)
 block:∀b∈f.qa,F8 f.qa b
 uses:EC (Bg 0 f.qa) (B8 f.qa) 0 f.qa=0
theorem DY {f:Ai}:Bu f=0↔Ae6 f:=by
 constructor
 .intro h;have hok:=Bf h;obtain ⟨h1,h2⟩:=Jw (bs:=f.qa) (l:=f.qa) (k:=0) (d:= []);have h3:=h1.1 hok.qa;have h4:=h2 hok.qa;have hu:=hok.uses;rw [h4,Yab] at hu;have hl:=RV h3.1.nodup h3.1.wi;rw [Pa] at hl;have hi:=VM f.qa;have hc:=hok.ins;rw [Ii _ _ (by omega) (by omega)] at hc;exact ⟨hok.pos,hok.len,by omega,hok.params,C0.2 hok.name,h3.1,h3.2,hu⟩
 intro h;obtain ⟨h1,h2⟩:=Jw (bs:=f.qa) (l:=f.qa) (k:=0) (d:= []);have h3:=h1.2 ⟨h.kok,h.block⟩;have h4:=h2 h3;have a1:=h.pos;have a2:=h.len;have a3:=h.ins;have a4:=h.params;unfold Bu;rw [if_neg (by omega),if_neg (by rw [Ii _ _ (by omega) (by omega)];omega),if_neg (by rw [h.name];decide),if_neg (λ hn=>hn h3),h4,Yab];exact h.uses
def atF (f:Ai):List Int:=Ju (B9 f) f.qa.length
def reB (at_:List Int)(b:Aa):Aa:= { b with qb:= { b.qb with to:=b.qb.to.map λe=>⟨gI at_ e.block,e.args⟩ } }
def Bp (f:Ai):Ai:=⟨f.name,(B9 f).map λk=>reB (atF f) (f.qa[k.toNat]?.getD default)⟩
def Bq (f:Ai):List Nat:=(Yz f.qa.length).filter λv=>decide (v∈AJ f.qa)
def rk (f:Ai)(v:Nat):Nat:=(gI (atF f) v).toNat
theorem Pb:∀ {a b:List Int},a.Pairwise (· < ·)->b.Pairwise (· < ·)->(∀x,x∈a↔x∈b)->a=b
 | [],[],_,_,_=>rfl
 | [],y::b,_,_,h=>by have:=(h y).2 (Yb ..);cases this
 | x::a,[],_,_,h=>by have:=(h x).1 (Yb ..);cases this
 | x::a,y::b,ha,hb,h=>by
  obtain⟨a1,a2⟩:=List.pairwise_cons.1 ha;obtain ⟨b1,b2⟩:=List.pairwise_cons.1 hb
  have hxy:x=y:=by
   rcases Ye.1 ((h x).1 (Yb ..)) with e | e
   .exact e
   rcases Ye.1 ((h y).2 (Yb ..)) with e2 | e2
   .exact e2.symm
   have:=b1 x e;have:=a1 y e2;omega
  subst hxy;rw [Pb a2 b2 λz=> ?_];constructor
  .intro hz;rcases Ye.1 ((h z).1 (Yd _ hz)) with e | e
   .have:=a1 z hz;omega
   exact e
  intro hz;rcases Ye.1 ((h z).2 (Yd _ hz)) with e | e
  .have:=b1 z hz;omega
  exact e
section
variable {f:Ai}(ho:Dx f.qa (AJ f.qa))
include ho
theorem DZ {v:Nat}:v∈Bq f↔v∈AJ f.qa:=by
 unfold Bq;rw [Ybd,Yay,decide_eq_true_eq];exact ⟨λ h=>h.2,λh=>⟨ho.lt v h,h⟩⟩
omit ho in
theorem Ee:(Bq f).Pairwise (· < ·):=List.Pairwise.filter _ List.pairwise_lt_range
theorem Ho:B9 f=(Bq f).map λk:Nat=>(k:Int):=by
 refine Pb ?_ ?_ λx=> ?_
 .have h1:=List.pairwise_mergeSort (le:=λ(x y:Int)=>decide (x<=y)) (λ a b c h1 h2=>by simp at h1 h2 ⊢;omega) (λ a b=>by simp;omega) (If f.qa)
  have h2:(B9 f).Nodup:=(List.mergeSort_perm _ _).nodup_iff.2 (by
   unfold If;rw [List.Nodup,Ybc];exact ho.nodup.imp λhne e=>hne (by omega))
  refine(List.pairwise_and_iff.2 ⟨h1,h2⟩).imp λ⟨h3,h4⟩=> ?_;have:=of_decide_eq_true h3;omega
 .rw [Ybc];exact Ee.imp λh=>by omega
 rw [Yg];constructor
 .intro hx;have hx2:=hx;rw [B9,List.mem_mergeSort,If,Yg] at hx2;obtain ⟨v,hv,rfl⟩:=hx2;exact ⟨v,(DZ ho).2 hv,rfl⟩
 rintro⟨v,hv,rfl⟩;exact Xp.2 ((DZ ho).1 hv)
theorem AaR {v:Nat}(hv:v<f.qa.length):gI (atF f) v= -1/\v∉AJ f.qa\/v∈AJ f.qa/\gI (atF f) v=(rk f v:Nat)/\(Bq f)[rk f v]? =some v:=by
 have hg:(atF f)[v]? =some (idxOf (λ x=>decide ((v:Int)=x)) (B9 f)):=by
  unfold atF Ju;rw [Yn,Yba hv];rfl
 have e:=Ae4 ho hg;rw [Ho ho] at e;rcases VG (l:=Bq f) (v:=v) with ⟨h1,h2⟩ | ⟨i,h1,h2⟩
 .exact .inl ⟨by rw [e];exact h1,λh=>h2 ((DZ ho).2 h)⟩
 have e2:gI (atF f) v=(i:Nat):=by rw [e];exact h1
 have e3:rk f v=i:=by unfold rk;rw [e2,Ybp]
 exact .inr ⟨(DZ ho).1 (Ya h2),by rw [e3];exact e2,by rw [e3];exact h2⟩
theorem Ij {v:Nat}(hv:v∈AJ f.qa):gI (atF f) v=(rk f v:Nat)/\(Bq f)[rk f v]? =some v:=by
 rcases AaR ho (ho.lt v hv) with ⟨_,h⟩ | ⟨_,h⟩
 .exact absurd hv h
 exact h
omit ho in
theorem Jx {l:List Nat}(h:l.Pairwise (· < ·)){i j v:Nat}(hi:l[i]? =some v)(hj:l[j]? =some v):i=j:=by
 have hn:l.Nodup:=h.imp λh e=>by omega
 obtain⟨a1,a2⟩:=Yc.1 hi;obtain ⟨b1,b2⟩:=Yc.1 hj;exact (List.getElem_inj hn).1 (a2.trans b2.symm)
theorem Agj {i v:Nat}(h:(Bq f)[i]? =some v):v∈AJ f.qa/\rk f v=i:=by
 have hv:=(DZ ho).1 (Ya h);exact ⟨hv,Jx Ee (Ij ho hv).2 h⟩
theorem Jy {v w:Nat}(hv:v∈AJ f.qa)(hw:w∈AJ f.qa)(h:rk f v=rk f w):v=w:=by
 have h1:=(Ij ho hv).2;rw [h,(Ij ho hw).2] at h1;injection h1 with h1;exact h1.symm
theorem IT:rk f 0=0:=by
 have h0:=Hn ho;have h1:=(Ij ho h0).2;refine Classical.byContradiction λhne=> ?_;obtain ⟨a1,a2⟩:=Yc.1 h1;have h2:=List.pairwise_iff_getElem.1 (Ee (f:=f)) 0 (rk f 0) (by omega) a1 (by omega);omega
omit ho in
theorem Pc:(Bp f).qa.length=(B9 f).length:=by unfold Bp;rw [Yh]
theorem D5:(Bp f).qa=((Bq f).map λv=>f.qa[v]?.getD default).map (reB (atF f)):=by
 unfold Bp;rw [Ho ho,Yaj,Yaj];refine Yap λv _=> ?_;simp
theorem Pd {i v:Nat}{b:Aa}(h:(Bq f)[i]? =some v)(hb:f.qa[v]? =some b):(Bp f).qa[i]? =some (reB (atF f) b):=by
 rw [D5 ho,Yn,Yn,h];simp [hb]
theorem Ik {v:Nat}{b:Aa}(hv:v∈AJ f.qa)(hb:f.qa[v]? =some b):(Bp f).qa[rk f v]? =some (reB (atF f) b):=Pd ho (Ij ho hv).2 hb
theorem Il {i:Nat}{c:Aa}(h:(Bp f).qa[i]? =some c):∃v b,v∈AJ f.qa/\rk f v=i/\f.qa[v]? =some b/\c=reB (atF f) b:=by
 have hi:=(Yc.1 h).1;have hl:(Bp f).qa.length=(Bq f).length:=by rw [D5 ho];simp
 obtain⟨v,hv⟩:∃v,(Bq f)[i]? =some v:=⟨_,Yw (by omega)⟩;obtain ⟨hvo,hr⟩:=Agj ho hv;obtain ⟨b,hb⟩:∃b,f.qa[v]? =some b:=⟨_,Yw (ho.lt v hvo)⟩;rw [Pd ho hv hb] at h;injection h with h;exact ⟨v,b,hvo,hr,hb,h.symm⟩
theorem Ul {p v:Nat}(hp:p∈AJ f.qa)(he:Edge f.qa p v)(hE:∀b∈f.qa,∀e∈b.qb.to,1<=e.block/\e.block<f.qa.length):Edge (Bp f).qa (rk f p) (rk f v):=by
 obtain⟨e,he,hev⟩:=he;obtain ⟨b,hb⟩:∃b,f.qa[p]? =some b:=⟨_,Yw (ho.lt p hp)⟩;rw [Bz hb] at he;have hem:=hE b (Ya hb) e he;refine ⟨⟨gI (atF f) e.block,e.args⟩,?_,?_⟩
 .rw [Bz (Ik ho hp hb)];exact Yg.2 ⟨e,he,rfl⟩
 unfold rk;rw [show (v:Int)=e.block by omega]
theorem Um {i j:Nat}(he:Edge (Bp f).qa i j)(hE:∀b∈f.qa,∀e∈b.qb.to,1<=e.block/\e.block<f.qa.length):∃p v,p∈AJ f.qa/\v∈AJ f.qa/\rk f p=i/\rk f v=j/\Edge f.qa p v:=by
 obtain⟨x,hx,hxj⟩:=he
 obtain⟨c,hc⟩:∃c,(Bp f).qa[i]? =some c:=by
  unfold Gr at hx
  cases hb:(Bp f).qa[i]? with
  | none=>rw [hb] at hx;cases hx
  | some c=>exact⟨c,rfl⟩
 obtain⟨p,b,hp,hr,hb,rfl⟩:=Il ho hc;rw [Bz hc] at hx;obtain ⟨e,he,rfl⟩:=Yg.1 hx;have hem:=hE b (Ya hb) e he;have hedge:Edge f.qa p e.block.toNat:=⟨e,by rw [Bz hb];exact he,rfl⟩;have hv:=J4 ho hp hedge;refine ⟨p,e.block.toNat,hp,hv,hr,?_,hedge⟩;rw [<- hxj];unfold rk;rw [show ((e.block.toNat:Nat):Int)=e.block by omega]
theorem Gd (hE:∀b∈f.qa,∀e∈b.qb.to,1<=e.block/\e.block<f.qa.length){l:List Nat}{v:Nat}(hw:Way f.qa l v):v∈AJ f.qa/\(∀y∈l,y∈AJ f.qa)/\Way (Bp f).qa (l.map (rk f)) (rk f v):=by
 induction hw with
 | start=>exact⟨Hn ho,(λ y hy=>absurd hy (by simp)),(by rw [IT ho];exact .start:Way (Bp f).qa ([].map (rk f)) (rk f 0))⟩
 | @step l p k hw he ih=>
  obtain⟨h1,h2,h3⟩:=ih;refine ⟨J4 ho h1 he,λy hy=> ?_, .step h3 (Ul ho h1 he hE)⟩;rcases Ye.1 hy with rfl | hy
  .exact h1
  exact h2 y hy
theorem Xx (hE:∀b∈f.qa,∀e∈b.qb.to,1<=e.block/\e.block<f.qa.length){l:List Nat}{i:Nat}(hw:Way (Bp f).qa l i):∃l0 v,Way f.qa l0 v/\l=l0.map (rk f)/\rk f v=i:=by
 induction hw with
 | start=>exact⟨[],0, .start,rfl,IT ho⟩
 | @step l p k hw he ih=>
  obtain⟨l0,v,h1,rfl,rfl⟩:=ih;obtain ⟨p,w,hp,hw2,e1,e2,hed⟩:=Um ho he hE;have hpv:=Jy ho hp (Gd ho hE h1).1 e1;subst hpv;exact ⟨p::l0,w, .step h1 hed,rfl,e2⟩
theorem Un (hE:∀b∈f.qa,∀e∈b.qb.to,1<=e.block/\e.block<f.qa.length){x v:Nat}(hx:x∈AJ f.qa)(hv:v∈AJ f.qa):MZ (Bp f).qa (rk f x) (rk f v)↔MZ f.qa x v:=by
 constructor
 .intro hd l hw;obtain ⟨_,hl,hw2⟩:=Gd ho hE hw;rcases hd _ hw2 with e | e
  .exact .inl (Jy ho hx hv e)
  obtain⟨y,hy,e⟩:=Yg.1 e;rw [<- Jy ho (hl y hy) hx e];exact .inr hy
 intro hd l hw;obtain ⟨l0,w,h1,rfl,e⟩:=Xx ho hE hw;have:=Jy ho (Gd ho hE h1).1 hv e;subst this;rcases hd _ h1 with e | e
 .exact .inl (by rw [e])
 exact .inr (Yg.2 ⟨_,e,rfl⟩)
omit ho in
theorem M4:((Bq f).map λv=>f.qa[v]?.getD default).Sublist f.qa:=by
 have h1:((Bq f).map λv=>f.qa[v]?.getD default).Sublist ((Yz f.qa.length).map λv=>f.qa[v]?.getD default):=(List.filter_sublist ..).map _
 have h2:((Yz f.qa.length).map λv=>f.qa[v]?.getD default)=f.qa:=by
  apply List.ext_getElem
  .simp
  intro i a b;simp [Yw b]
 rw [h2] at h1;exact h1
end
theorem AaS:∀ {a b:List Aa},a.Sublist b->CW a<=CW b:=λh=>by
 induction h with
 | slnil=>exact Ybh _
 | cons a _ ih=>rw [CW];omega
 | cons_cons a _ ih=>rw [CW,CW];omega
theorem VN (at_:List Int):∀l:List Aa,CW (l.map (reB at_))=CW l
 | []=>rfl
 | b::l=>by rw [Yt,CW,CW,VN at_ l];rfl
theorem Gu {bs:List Aa}:∀ {l:List Am},(∀e∈l,1<=e.block/\e.block<bs.length/\e.args.length=(AI bs e.block).length)->Cx bs l=0
 | [],_=>rfl
 | e::l,h=>by
  have h1:=h e (Yb ..);rw [Cx,if_neg (by rw [C0.2 ⟨h1.1,by omega⟩];decide),if_neg (λ hn=>hn h1.2.2)];exact Gu λx hx=>h x (Yd _ hx)
theorem EE {d:BB}{o:Dom}:∀ {l:List Aa} {k:Nat},EC d o k l=0↔∀(j:Nat) (b:Aa),l[j]? =some b->C6 d o (k+j) 0 b.ins=true/\Fx b.qb (CP d o (k+j) b.ins.length)=true
 | [],k=>by simp [EC]
 | c::l,k=>by
  rw [EC];constructor
  .intro h j b hb;split at h
   .cases h
   rename_i h1;split at h
   .cases h
   rename_i h2
   cases j with
   | zero=>
    have hb:c=b:=by simpa using hb
    subst hb;exact ⟨by simpa using h1,by simpa using h2⟩
   | succ j=>
    have:=EE.1 h j b (by simpa using hb)
    rwa [show k+1+j=k+(j+1) by omega] at this
  intro h;have h0:=h 0 c rfl;rw [Ybj] at h0;rw [if_neg (by rw [h0.1];decide),if_neg (by rw [h0.2];decide)]
  exact EE.2 λj b hb=>by
   have:=h (j+1) b (by simpa using hb)
   rwa [show k+(j+1)=k+1+j by omega] at this
theorem Im {d d':BB}{o o':Dom}{k k':Nat}(h:∀n u,CP d o k n u=true->CP d' o' k' n u=true):∀ {is:List AQ} {n:Int},C6 d o k n is=true->C6 d' o' k' n is=true
 | [],n,_=>rfl
 | i::is,n,hu=>by
  rw [C6,Bool.and_eq_true,Ys] at hu ⊢;exact ⟨λ u hu2=>h n u (hu.1 u hu2),Im h hu.2⟩
theorem Adc {at_:List Int}{t:BG}{use use':Int->Bool}(h:∀u,use u=true->use' u=true)(hu:Fx t use=true):Fx { t with to:=t.to.map λe=>⟨gI at_ e.block,e.args⟩ } use'=true:=by
 unfold Fx at hu ⊢;dsimp only;split at hu
 .cases hu
 rename_i h1
 rw [if_neg (λ h2=>h1 ⟨h2.1,by
  cases hc:use t.arg with
  | false=>rfl
  | true=>rw [h _ hc] at h2;exact absurd h2.2 (by decide)⟩)]
 rw [Ys] at hu ⊢;intro e he;obtain ⟨x,hx,rfl⟩:=Yg.1 he;have:=hu x hx;rw [Ys] at this ⊢;exact λu hu2=>h u (this u hu2)
theorem AaT {α β:Type}{g:α->List β}{a b:List α}(h:a.Sublist b):(a.flatMap g).Sublist (b.flatMap g):=by
 induction h with
 | slnil=>exact .slnil
 | cons a _ ih=>rw [Yak];exact ih.trans (List.sublist_append_right ..)
 | cons_cons a _ ih=>rw [Yak,Yak];exact(List.Sublist.refl _).append ih
theorem J7 {d:BB}:(∀x∈keys d,x∉keys ([]:BB)):=λx _ h=>by cases h
theorem RW {f:Ai}(h0:Bu f=0):Bu (Bp f)=0:=by
 have hok:=Bf h0;have ho:=Dj hok.pos hok.edges;have hE:=hok.edges;have fi:=DY.1 h0;have hz:=Hn ho
 have hlen:(Bp f).qa.length<=f.qa.length:=by
  rw [D5 ho,Yh];exact (M4 (f:=f)).length_le
 have hgp:∀v:Nat,v∈AJ f.qa->rk f v<(Bp f).qa.length:=λv hv=>by
  obtain⟨b,hb⟩:∃b,f.qa[v]? =some b:=⟨_,Yw (ho.lt v hv)⟩;exact (Yc.1 (Ik ho hv hb)).1
 have hpos:0<(Bp f).qa.length:=by have:=hgp 0 hz;omega
 have hpar:∀v:Nat,v∈AJ f.qa->AI (Bp f).qa (rk f v)=AI f.qa v:=λv hv=>by
  obtain⟨b,hb⟩:∃b,f.qa[v]? =some b:=⟨_,Yw (ho.lt v hv)⟩;unfold AI;rw [Ybp,Ybp,Ik ho hv hb,hb];rfl
 have hblk:∀c∈(Bp f).qa,F8 (Bp f).qa c:=λc hc=>by
  obtain⟨i,hi⟩:=Yk hc;obtain ⟨v,b,hv,hr,hb,rfl⟩:=Il ho hi;obtain ⟨b1,b2⟩:=fi.block b (Ya hb);refine ⟨b1,?_⟩;have he:=CN b2;unfold HX at b2 ⊢
  have hsh:Dh (reB (atF f) b).qb=Dh b.qb:=by
   unfold Dh reB;simp only [Yh]
  rw [hsh,if_neg (by rw [he.shape];decide)];change (if 256<(b.qb.cases.length:Int) then 2 else if b.qb.kind=4/\wi b.qb.n 1 6=false then 4 else if BM [] b.qb.cases≠0 then BM [] b.qb.cases else Cx (Bp f).qa (b.qb.to.map λe=>⟨gI (atF f) e.block,e.args⟩))=0;rw [if_neg (by rw [he.shape];decide)] at b2;split at b2
  .cases b2
  rename_i h2;rw [if_neg h2];split at b2
  .cases b2
  rename_i h3;rw [if_neg h3];rw [if_neg (λ hn=>hn he.cases)];refine Gu λe hem=> ?_;obtain ⟨x,hx,rfl⟩:=Yg.1 hem;obtain ⟨x1,x2,x3⟩:=he.edges x hx;have hedge:Edge f.qa v x.block.toNat:=⟨x,by rw [Bz hb];exact hx,rfl⟩;have hxo:=J4 ho hv hedge;obtain ⟨g1,g2⟩:=Ij ho hxo;rw [show ((x.block.toNat:Nat):Int)=x.block by omega] at g1
  have hne:rk f x.block.toNat≠0:=λe=>by
   have:=Jy ho hxo hz (by rw [e,IT ho]);omega
  have hlt:=hgp _ hxo;have hp:=hpar _ hxo;dsimp only;rw [g1];refine ⟨by omega,by omega,?_⟩;rw [hp,x3,show((x.block.toNat:Nat):Int)=x.block by omega]
 have hEg:∀b∈(Bp f).qa,∀e∈b.qb.to,1<=e.block/\e.block<(Bp f).qa.length:=λb hb e he=>by
  have:=(CN (hblk b hb).2).edges e he;exact ⟨this.1,this.2.1⟩
 have hkeys:keys (Bg 0 (Bp f).qa)=((Bq f).map λv=>f.qa[v]?.getD default).flatMap λb=>(dB b).map (·.1):=by
  rw [Pa,D5 ho,List.flatMap_map];rfl
 have hsub:(keys (Bg 0 (Bp f).qa)).Sublist (keys (Bg 0 f.qa)):=by
  rw [hkeys,Pa];exact AaT (M4 (f:=f))
 have hkok:KOk [] (Bg 0 (Bp f).qa):=⟨λ x hx=>fi.kok.wi x (hsub.subset hx),fi.kok.nodup.sublist hsub,J7⟩;have hlen128:=hok.len;refine DY.2 ⟨hpos,by omega,?_,?_,fi.name,hkok,hblk,?_⟩
 .have h1:=AaS (M4 (f:=f));have h2:=fi.ins;rw [D5 ho,VN];omega
 .have h1:=hpar 0 hz;rw [IT ho] at h1;have h2:=fi.params;rw [show ((0:Nat):Int)=0 from rfl] at h1;rw [h1];exact h2
 refine EE.2 λi c hi=> ?_;obtain ⟨v,b,hv,rfl,hb,rfl⟩:=Il ho hi;have hu:=EE.1 fi.uses v b hb;rw [Ybi] at hu ⊢;obtain ⟨l,hw⟩:=(K1 hok).1 hv
 have hfine:∀n u,CP (Bg 0 f.qa) (B8 f.qa) v n u=true->CP (Bg 0 (Bp f).qa) (B8 (Bp f).qa) (rk f v) n u=true:=λn u hf=>by
  unfold CP at hf
  cases hg:Cc (Bg 0 f.qa) u with
  | none=>rw [hg] at hf;cases hf
  | some p=>
   rw [hg] at hf;dsimp only at hf;obtain ⟨j,bj,hbj,hp1,hp2⟩:=Ih.1 ((J6 fi.kok.nodup).1 hg);obtain ⟨p1,q⟩:=p;have hp1:p1=(0:Int)+j:=hp1;rw [Int.zero_add] at hp1;subst hp1;have hp2:(u,q)∈dB bj:=hp2;have hseen:(B8 f.qa).seen.has v=true:=(M2 hok.pos hok.len hE (by have:=ho.lt v hv;omega)).2 ⟨l,hw⟩
   have hcase:j∈AJ f.qa/\(j=v/\q<=n\/j≠v/\MZ f.qa j v):=by
    rw [hseen] at hf;simp only [Bool.not_true,Bool.or_false,Bool.or_eq_true,Bool.and_eq_true,decide_eq_true_eq,Ybp] at hf;rcases hf with ⟨h1,h2⟩ | ⟨h1,h2⟩
    .have:j=v:=by omega
     subst this;exact ⟨hv, .inl ⟨rfl,h2⟩⟩
    have hd:=(Bi hok.pos hok.len hE ⟨l,hw⟩ (ho.lt v hv) (Yc.1 hbj).1).1 h2
    have hjo:j∈AJ f.qa:=by
     rcases hd l hw with e | e
     .rw [e];exact hv
     exact(Gd ho hE hw).2.1 j e
    exact⟨hjo, .inr ⟨λ e=>h1 (by rw [e]),hd⟩⟩
   obtain⟨hjo,hcase⟩:=hcase;have hgj:=Ik ho hjo hbj;have hg2:Cc (Bg 0 (Bp f).qa) u=some (((rk f j:Nat):Int),q):=(J6 hkok.nodup).2 (Ih.2 ⟨rk f j,_,hgj,by simp,hp2⟩);unfold CP;rw [hg2];dsimp only;rcases hcase with ⟨rfl,h2⟩ | ⟨h1,h2⟩
   .simp [h2]
   have hne:((rk f j:Nat):Int)≠(rk f v:Nat):=λe=>h1 (Jy ho hjo hv (by omega));have hh:((B8 (Bp f).qa).at (rk f v)).has (rk f j)=true:=(Bi hpos (by omega) hEg ⟨_,(Gd ho hE hw).2.2⟩ (hgp v hv) (hgp j hjo)).2 ((Un ho hE hjo hv).2 h2);rw [Ybp,hh];simp [hne]
 exact⟨Im hfine hu.1,Adc (hfine _) hu.2⟩
def GS (e:Am):Aa:=⟨[],[],⟨1,0,0,[],[e]⟩⟩
abbrev Cut:=List (Nat×Am)
def spE (c:Am->Bool)(n k:Nat):List Am->Cut->List Am×Cut
 | [],X=>([],X)
 | e::l,X=>if c e=true then (⟨((n+X.length:Nat):Int),[]⟩::(spE c n k l (X++ [(k,e)])).1,(spE c n k l (X++ [(k,e)])).2) else (e::(spE c n k l X).1,(spE c n k l X).2)
def Ce (b:Aa)(to:List Am):Aa:= { b with qb:= { b.qb with to:=to } }
def spB (c:Aa->Am->Bool)(n:Nat):Nat->List Aa->Cut->List Aa×Cut
 | _,[],X=>([],X)
 | k,b::l,X=>(Ce b (spE (c b) n k b.qb.to X).1::(spB c n (k+1) l (spE (c b) n k b.qb.to X).2).1,(spB c n (k+1) l (spE (c b) n k b.qb.to X).2).2)
def B4 (bs:List Aa)(b:Aa)(e:Am):Bool:= !(decide ((b.qb.to.length:Int)<2)||decide ((((CV bs)[e.block.toNat]?.getD []).length:Int)<2))
def Cl (f:Ai):List Aa×Cut:=spB (B4 f.qa) f.qa.length 0 f.qa []
def Ac (f:Ai):Ai:=⟨f.name,(Cl f).1++(Cl f).2.map λx=>GS x.2⟩
theorem IU (c:Am->Bool)(n k:Nat):∀(l:List Am) (X:Cut),∃Y,(spE c n k l X).2=X++Y/\Y.length<=l.length/\∀x∈Y,x.1=k/\x.2∈l
 | [],X=>⟨[],by rw [spE,Yo],Ybh _,λx h=>by cases h⟩
 | e::l,X=>by
  rw [spE];split
  .obtain ⟨Y,h1,h2,h3⟩:=IU c n k l (X++ [(k,e)]);refine ⟨(k,e)::Y,by rw [h1,Yj];rfl,by simp;omega,λx hx=> ?_⟩;rcases Ye.1 hx with rfl | hx
   .exact ⟨rfl,Yb ..⟩
   exact⟨(h3 x hx).1,Yd _ (h3 x hx).2⟩
  obtain⟨Y,h1,h2,h3⟩:=IU c n k l X;exact ⟨Y,h1,by simp;omega,λx hx=>⟨(h3 x hx).1,Yd _ (h3 x hx).2⟩⟩
theorem J8 (c:Am->Bool)(n k:Nat):∀(l:List Am) (X:Cut),(spE c n k l X).1.length=l.length
 | [],X=>rfl
 | e::l,X=>by
  rw [spE];split
  .show (_::_).length=_;rw [Yf,J8,Yf]
  show(_::_).length=_;rw [Yf,J8,Yf]
theorem Qp (c:Am->Bool)(n k:Nat):∀(l:List Am) (X:Cut) (i:Nat) (e:Am),l[i]? =some e->(spE c n k l X).1[i]? =some e\/∃j,(spE c n k l X).2[j]? =some (k,e)/\(spE c n k l X).1[i]? =some ⟨((n+j:Nat):Int),[]⟩
 | [],X,i,e,h=>by simp at h
 | a::l,X,i,e,h=>by
  rw [spE];split
  .dsimp only
   cases i with
   | zero=>
    have h:a=e:=by simpa using h
    subst h;obtain ⟨Y,h1,_⟩:=IU c n k l (X++ [(k,a)]);refine .inr ⟨X.length,?_,rfl⟩;rw [h1,Yj,Yx (Ybh _),Ybk];rfl
   | succ i=>
    have h:l[i]? =some e:=by simpa using h
    simpa using Qp c n k l _ i e h
  dsimp only
  cases i with
  | zero=>
   have h:a=e:=by simpa using h
   subst h;exact .inl rfl
  | succ i=>
   have h:l[i]? =some e:=by simpa using h
   simpa using Qp c n k l _ i e h
theorem J9 (c:Aa->Am->Bool)(n:Nat):∀(l:List Aa) (k:Nat) (X:Cut),∃Y,(spB c n k l X).2=X++Y/\∀x∈Y,∃i b,l[i]? =some b/\x.1=k+i/\x.2∈b.qb.to
 | [],k,X=>⟨[],by rw [spB,Yo],λx h=>by cases h⟩
 | b::l,k,X=>by
  rw [spB];obtain ⟨Y,h1,_,h2⟩:=IU (c b) n k b.qb.to X;obtain ⟨Z,h3,h4⟩:=J9 c n l (k+1) (spE (c b) n k b.qb.to X).2;refine ⟨Y++Z,by rw [h3,h1,Yj],λx hx=> ?_⟩;rcases Yv.1 hx with hx | hx
  .exact ⟨0,b,rfl,(h2 x hx).1,(h2 x hx).2⟩
  obtain⟨i,d,g1,g2,g3⟩:=h4 x hx;exact ⟨i+1,d,by simpa using g1,by omega,g3⟩
theorem Qq (c:Aa->Am->Bool)(n:Nat):∀(l:List Aa) (k:Nat) (X:Cut),(spB c n k l X).1.length=l.length
 | [],k,X=>rfl
 | b::l,k,X=>by
  rw [spB];show (_::_).length=_;rw [Yf,Qq,Yf]
theorem Qr (c:Aa->Am->Bool)(n:Nat):∀(l:List Aa) (k:Nat) (X:Cut) (i:Nat) (b:Aa),l[i]? =some b->∃to:List Am,(spB c n k l X).1[i]? =some (Ce b to)/\to.length=b.qb.to.length/\∀(j:Nat) (e:Am),b.qb.to[j]? =some e->to[j]? =some e\/∃m,(spB c n k l X).2[m]? =some (k+i,e)/\to[j]? =some ⟨((n+m:Nat):Int),[]⟩
 | [],k,X,i,b,h=>by simp at h
 | a::l,k,X,i,b,h=>by
  rw [spB];dsimp only
  cases i with
  | zero=>
   have h:a=b:=by simpa using h
   subst h;refine ⟨_,rfl,J8 ..,λj e he=> ?_⟩;rcases Qp (c a) n k a.qb.to X j e he with h | ⟨m,h1,h2⟩
   .exact .inl h
   obtain⟨Y,h3,_⟩:=J9 c n l (k+1) (spE (c a) n k a.qb.to X).2;refine .inr ⟨m,?_,h2⟩;rw [h3,Yac (Yc.1 h1).1];exact h1
  | succ i=>
   have h:l[i]? =some b:=by simpa using h
   obtain⟨to,h1,h2,h3⟩:=Qr c n l (k+1) (spE (c a) n k a.qb.to X).2 i b h;refine ⟨to,by simpa using h1,h2,λj e he=>(h3 j e he).imp id λ⟨m,g1,g2⟩=>⟨m,?_,g2⟩⟩;rw [g1,show k+1+i=k+(i+1) by omega]
structure VO (bs gs:List Aa)(E:Cut):Prop where
 len:gs.length=bs.length+E.length
 old:∀k b,bs[k]? =some b->∃to:List Am,gs[k]? =some (Ce b to)/\to.length=b.qb.to.length/\∀(j:Nat) (e:Am),b.qb.to[j]? =some e->to[j]? =some e\/∃m,E[m]? =some (k,e)/\to[j]? =some ⟨((bs.length+m:Nat):Int),[]⟩
 new:∀m k e,E[m]? =some (k,e)->gs[bs.length+m]? =some (GS e)/\∃b,bs[k]? =some b/\e∈b.qb.to
theorem FA (f:Ai):VO f.qa (Ac f).qa (Cl f).2:=by
 have hl:(Cl f).1.length=f.qa.length:=Qq ..;refine ⟨by unfold Ac;dsimp only;rw [Yi,Yh,hl],λk b hb=> ?_,λm k e he=> ?_⟩
 .obtain ⟨to,h1,h2,h3⟩:=Qr (B4 f.qa) f.qa.length f.qa 0 [] k b hb;have hk:=(Yc.1 hb).1;refine ⟨to,?_,h2,λj e he=>(h3 j e he).imp id λ⟨m,g1,g2⟩=>⟨m,by rw [Ybi] at g1;exact g1,g2⟩⟩;unfold Ac;dsimp only;rw [Yac (by omega)];exact h1
 obtain⟨Y,h1,h2⟩:=J9 (B4 f.qa) f.qa.length f.qa 0 [];refine ⟨?_,?_⟩
 .unfold Ac;dsimp only;rw [Yx (by omega),hl,Nat.add_sub_cancel_left,Yn,he];rfl
 have hm:(k,e)∈Y:=by
  have:=Ya he;unfold Cl at this;rw [h1] at this;exact this
 obtain⟨i,b,g1,g2,g3⟩:=h2 _ hm;have g2:k=0+i:=g2;rw [Ybi] at g2;subst g2;exact ⟨b,g1,g3⟩
section
variable {bs gs:List Aa}{E:Cut}(h:VO bs gs E)(hE:∀b∈bs,∀e∈b.qb.to,1<=e.block/\e.block<bs.length)
include h hE
theorem Pe {l:List Nat}{v:Nat}(hw:Way bs l v):∃l',Way gs l' v/\∀y∈l',y<bs.length->y∈l:=by
 induction hw with
 | start=>exact⟨[], .start,λy hy=>by cases hy⟩
 | @step l p k _ he ih=>
  obtain⟨l',h1,h2⟩:=ih;obtain ⟨e,he,hek⟩:=he
  have hpl:p<bs.length:=Classical.byContradiction λhn=>by
   rw [Gr,Yae (by omega)] at he
   cases he
  obtain⟨b,hb⟩:=Ab bs p (by omega);rw [Bz hb] at he;obtain ⟨j,hj⟩:=Yk he;obtain ⟨to,g1,g2,g3⟩:=h.old p b hb;have hto:Gr gs p=to:=by rw [Bz g1];rfl
  rcases g3 j e hj with g | ⟨m,g4,g5⟩
  .refine ⟨p::l', .step h1 ⟨e,by rw [hto];exact Ya g,hek⟩,λy hy hyl=> ?_⟩;rcases Ye.1 hy with rfl | hy
   .exact Yb ..
   exact Yd _ (h2 y hy hyl)
  have hn:=(h.new m p e g4).1;refine ⟨(bs.length+m)::p::l', .step (.step h1 ⟨_,by rw [hto];exact Ya g5,by dsimp only;omega⟩) ⟨e,by rw [Bz hn];exact Yl.2 rfl,hek⟩,λy hy hyl=> ?_⟩;rcases Ye.1 hy with rfl | hy
  .omega
  rcases Ye.1 hy with rfl | hy
  .exact Yb ..
  exact Yd _ (h2 y hy hyl)
theorem K3 {l:List Nat}{v:Nat}(hw:Way gs l v):(v<bs.length->∃l0,Way bs l0 v/\∀y∈l0,y∈l)/\
  ∀m k e,v=bs.length+m->E[m]? =some (k,e)->k∈l/\∃l0,Way bs l0 k/\∀y∈l0,y∈l:=by
 induction hw with
 | start=>exact⟨λ _=>⟨[], .start,λy hy=>by cases hy⟩,λm k e hv he=>by
   obtain⟨_,b,hb,hm⟩:=h.new m k e he;have:=hE b (Ya hb) e hm;omega⟩
 | @step l p v hw he ih=>
  obtain⟨ih1,ih2⟩:=ih;obtain ⟨e,he,hev⟩:=he
  by_cases hp:p<bs.length
  .obtain ⟨l0,w0,s0⟩:=ih1 hp;obtain ⟨b,hb⟩:=Ab bs p (by omega);obtain ⟨to,g1,g2,g3⟩:=h.old p b hb;have hto:Gr gs p=to:=by rw [Bz g1];rfl
   rw [hto] at he;obtain ⟨j,hj⟩:=Yk he;have hjl:=(Yc.1 hj).1;obtain ⟨x,hx⟩:=Ab b.qb.to j (by omega);have hxe:=hE b (Ya hb) x (Ya hx);rcases g3 j x hx with g | ⟨m,g4,g5⟩
   .rw [hj] at g;injection g with g;subst g;refine ⟨λ _=>⟨p::l0, .step w0 ⟨e,by rw [Bz hb];exact Ya hx,hev⟩,λy hy=> ?_⟩,λm k x2 hv _=>by omega⟩;rcases Ye.1 hy with rfl | hy
    .exact Yb ..
    exact Yd _ (s0 y hy)
   rw [hj] at g5;injection g5 with g5;subst g5;dsimp only at hev;refine ⟨λ hl=>by omega,λm2 k x2 hv he2=> ?_⟩;have:m2=m:=by omega
   subst this;rw [g4] at he2;injection he2 with he2;injection he2 with he2 he3;subst he2;exact ⟨Yb ..,l0,w0,λy hy=>Yd _ (s0 y hy)⟩
  have hpl:p<gs.length:=Classical.byContradiction λhn=>by
   rw [Gr,Yae (by omega)] at he
   cases he
  have hlen:=h.len;obtain ⟨⟨q,x⟩,hx⟩:=Ab E (p - bs.length) (by omega);obtain ⟨n1,b,hb,hm⟩:=h.new _ q x hx;rw [show bs.length+(p - bs.length)=p by omega] at n1;obtain ⟨i1,l0,w0,s0⟩:=ih2 (p - bs.length) q x (by omega) hx;rw [Bz n1] at he;have he:e=x:=Yl.1 he;subst he;have hxe:=hE b (Ya hb) e hm;refine ⟨λ _=>⟨q::l0, .step w0 ⟨e,by rw [Bz hb];exact hm,hev⟩,λy hy=> ?_⟩,λm k x2 hv _=>by omega⟩;rcases Ye.1 hy with rfl | hy
  .exact Yd _ i1
  exact Yd _ (s0 y hy)
theorem RX {v:Nat}(hv:v<bs.length):(∃l,Way gs l v)↔∃l,Way bs l v:=
 ⟨λ ⟨l,hw⟩=>let ⟨l0,w0,_⟩:=(K3 h hE hw).1 hv;⟨l0,w0⟩,λ⟨l,hw⟩=>let ⟨l',w',_⟩:=Pe h hE hw;⟨l',w'⟩⟩
theorem Uo {a b:Nat}(ha:a<bs.length)(hb:b<bs.length):MZ gs a b↔MZ bs a b:=by
 constructor
 .intro hd l hw;obtain ⟨l',w',s'⟩:=Pe h hE hw;exact (hd l' w').imp id λhm=>s' a hm ha
 intro hd l hw;obtain ⟨l0,w0,s0⟩:=(K3 h hE hw).1 hb;exact (hd l0 w0).imp id (s0 a)
end
theorem Ka:∀(a b:List Aa) (k:Int),Bg k (a++b)=Bg k a++Bg (k+a.length) b
 | [],b,k=>by simp [Bg]
 | x::a,b,k=>by
  rw [Yam,Bg,Bg,Ka a b,Yj,Yf,show k+1+(a.length:Int)=k+((a.length+1:Nat):Int) by omega]
theorem M5:∀(E:Cut) (k:Int),Bg k (E.map λx=>GS x.2)= []
 | [],k=>rfl
 | x::E,k=>by rw [Yt,Bg,M5 E];rfl
theorem Pf (c:Aa->Am->Bool)(n:Nat):∀(l:List Aa) (k:Nat) (X:Cut) (m:Int),Bg m (spB c n k l X).1=Bg m l
 | [],k,X,m=>rfl
 | b::l,k,X,m=>by
  rw [spB,Bg];show Bg m (_::_)=_;rw [Bg,Pf c n l];rfl
theorem M6 (f:Ai):Bg 0 (Ac f).qa=Bg 0 f.qa:=by
 unfold Ac;dsimp only;rw [Ka,M5,Yo];exact Pf ..
theorem Lz:∀a b:List Aa,CW (a++b)=CW a+CW b
 | [],b=>by rw [Yab,CW,Ybi]
 | x::a,b=>by rw [Yam,CW,CW,Lz a b];omega
theorem Pg:∀E:Cut,CW (E.map λx=>GS x.2)=0
 | []=>rfl
 | x::E=>by rw [Yt,CW,Pg E];rfl
theorem RY (c:Aa->Am->Bool)(n:Nat):∀(l:List Aa) (k:Nat) (X:Cut),CW (spB c n k l X).1=CW l
 | [],k,X=>rfl
 | b::l,k,X=>by
  rw [spB,CW];show CW (_::_)=_;rw [CW,RY c n l];rfl
theorem Uq (f:Ai):CW (Ac f).qa=CW f.qa:=by
 unfold Ac;dsimp only;rw [Lz,Pg,Ybj];exact RY ..
theorem DA {f:Ai}(h0:Bu f=0)(hl:(Ac f).qa.length<=128):Bu (Ac f)=0:=by
 have hok:=Bf h0;have hE:=hok.edges;have fi:=DY.1 h0;have h:=FA f;have hlen:=h.len;have hpos:=hok.pos
 have hpar:∀v:Int,0<=v->v<f.qa.length->AI (Ac f).qa v=AI f.qa v:=λv h1 h2=>by
  obtain⟨b,hb⟩:=Ab f.qa v.toNat (by omega);obtain ⟨to,g1,_⟩:=h.old _ b hb;rw [Br g1,Br hb];rfl
 have hjmp:∀(m k:Nat) (e:Am),(Cl f).2[m]? =some (k,e)->AI (Ac f).qa ((f.qa.length+m:Nat):Int)= []:=λm k e hm=>by
  rw [Br (k:=((f.qa.length+m:Nat):Int)) (b:=GS e) (by rw [Ybp];exact(h.new m k e hm).1)];rfl
 have hget:∀(i:Nat) (c:Aa),(Ac f).qa[i]? =some c->(∃b to,f.qa[i]? =some b/\c=Ce b to/\to.length=b.qb.to.length/\∀e'∈to,e'∈b.qb.to\/∃m e,(Cl f).2[m]? =some (i,e)/\e'=⟨((f.qa.length+m:Nat):Int),[]⟩)\/
   ∃m k e b,i=f.qa.length+m/\(Cl f).2[m]? =some (k,e)/\c=GS e/\f.qa[k]? =some b/\e∈b.qb.to:=λi c hc=>by
  have hil:=(Yc.1 hc).1
  by_cases hi:i<f.qa.length
  .obtain ⟨b,hb⟩:=Ab f.qa i (by omega);obtain ⟨to,g1,g2,g3⟩:=h.old i b hb;rw [hc] at g1;injection g1 with g1;refine .inl ⟨b,to,hb,g1,g2,λe' he'=> ?_⟩;obtain ⟨j,hj⟩:=Yk he';have hjl:=(Yc.1 hj).1;obtain ⟨x,hx⟩:=Ab b.qb.to j (by omega);rcases g3 j x hx with g | ⟨m,g4,g5⟩
   .rw [hj] at g;injection g with g;exact .inl (g ▸ Ya hx)
   rw [hj] at g5;injection g5 with g5;exact .inr ⟨m,x,g4,g5⟩
  obtain⟨⟨k,e⟩,hx⟩:=Ab (Cl f).2 (i - f.qa.length) (by omega);obtain ⟨g1,b,hb,hm⟩:=h.new _ k e hx;rw [show f.qa.length+(i - f.qa.length)=i by omega,hc] at g1;injection g1 with g1;exact .inr ⟨_,k,e,b,by omega,hx,g1,hb,hm⟩
 have hed:∀b∈f.qa,∀e∈b.qb.to,1<=e.block/\e.block<(Ac f).qa.length/\e.args.length=(AI (Ac f).qa e.block).length:=λb hb e he=>by
  obtain⟨x1,x2,x3⟩:=(CN (fi.block b hb).2).edges e he;exact ⟨x1,by omega,by rw [hpar _ (by omega) x2];exact x3⟩
 have hblk:∀c∈(Ac f).qa,F8 (Ac f).qa c:=λc hc=>by
  obtain⟨i,hi⟩:=Yk hc;rcases hget i c hi with ⟨b,to,hb,rfl,hto,hes⟩ | ⟨m,k,e,b,rfl,hx,rfl,hb,hm⟩
  .have hbm:=Ya hb;obtain ⟨b1,b2⟩:=fi.block b hbm;refine ⟨b1,?_⟩;have he:=CN b2;unfold HX at b2 ⊢
   have hsh:Dh (Ce b to).qb=Dh b.qb:=by
    unfold Dh Ce;simp only [hto]
   rw [hsh,if_neg (by rw [he.shape];decide)];change (if 256<(b.qb.cases.length:Int) then 2 else if b.qb.kind=4/\wi b.qb.n 1 6=false then 4 else if BM [] b.qb.cases≠0 then BM [] b.qb.cases else Cx (Ac f).qa to)=0;rw [if_neg (by rw [he.shape];decide)] at b2;split at b2
   .cases b2
   rename_i h2;rw [if_neg h2];split at b2
   .cases b2
   rename_i h3;rw [if_neg h3,if_neg (λ hn=>hn he.cases)];refine Gu λe' he'=> ?_;rcases hes e' he' with h4 | ⟨m,e,hm,rfl⟩
   .exact hed b hbm e' h4
   have hml:=(Yc.1 hm).1;refine ⟨by dsimp only;omega,by dsimp only;omega,?_⟩;dsimp only;rw [hjmp m i e hm]
  refine⟨λ i hi=>(by cases hi),?_⟩;have h1:=hed b (Ya hb) e hm
  have h2:Cx (Ac f).qa [e]=0:=Gu λx hx=>by
   rw [Yl.1 hx];exact h1
  show HX _ ⟨1,0,0,[],[e]⟩=0;unfold HX;rw [if_neg (by simp [Dh]),if_neg (by simp),if_neg (by simp),if_neg (by simp [BM])];exact h2
 have hEg:∀b∈(Ac f).qa,∀e∈b.qb.to,1<=e.block/\e.block<(Ac f).qa.length:=λb hb e he=>by
  have:=(CN (hblk b hb).2).edges e he;exact ⟨this.1,this.2.1⟩
 have hgpos:0<(Ac f).qa.length:=by omega
 have hlen128:=hok.len;refine DY.2 ⟨hgpos,hl,by rw [Uq];exact fi.ins,?_,fi.name,by rw [M6];exact fi.kok,hblk,?_⟩
 .rw [hpar 0 (Ybo _) (by omega)];exact fi.params
 rw [M6];refine EE.2 λi c hi=> ?_;rw [Ybi];have hil:=(Yc.1 hi).1
 have hunseen:∀ {at_ u:Int},(¬ ∃l,Way (Ac f).qa l i)->(Cc (Bg 0 f.qa) u).isSome=true->CP (Bg 0 f.qa) (B8 (Ac f).qa) i at_ u=true:=λ {at_ u} hn hs=>by
  have hsn:(B8 (Ac f).qa).seen.has i=false:=by
   cases hc:(B8 (Ac f).qa).seen.has i with
   | false=>rfl
   | true=>exact absurd ((M2 hgpos hl hEg (by omega)).1 hc) hn
  unfold CP
  cases hg:Cc (Bg 0 f.qa) u with
  | none=>rw [hg] at hs;cases hs
  | some p=>dsimp only;rw [hsn];simp
 -- what a use of the old function knows
 have hknow:∀ {k:Nat} {at_ u:Int},k<f.qa.length->CP (Bg 0 f.qa) (B8 f.qa) k at_ u=true->∃j q,j<f.qa.length/\Cc (Bg 0 f.qa) u=some ((j:Int),q)/\((∃l,Way f.qa l k)->j=k/\q<=at_\/j≠k/\MZ f.qa j k):=λ {k at_ u} hk hf=>by
  unfold CP at hf
  cases hg:Cc (Bg 0 f.qa) u with
  | none=>rw [hg] at hf;cases hf
  | some p=>
   rw [hg] at hf;dsimp only at hf;obtain ⟨j,bj,hbj,hp1,hp2⟩:=Ih.1 ((J6 fi.kok.nodup).1 hg);obtain ⟨p1,q⟩:=p;have hp1:p1=(0:Int)+j:=hp1;rw [Int.zero_add] at hp1;subst hp1;have hjl:=(Yc.1 hbj).1;refine ⟨j,q,hjl,rfl,λhw=> ?_⟩;have hseen:(B8 f.qa).seen.has k=true:=(M2 hok.pos hok.len hE (by omega)).2 hw;rw [hseen] at hf;simp only [Bool.not_true,Bool.or_false,Bool.or_eq_true,Bool.and_eq_true,decide_eq_true_eq,Ybp] at hf;rcases hf with ⟨h1,h2⟩ | ⟨h1,h2⟩
   .exact .inl ⟨by omega,h2⟩
   exact .inr ⟨λ e=>h1 (by rw [e]),(Bi hok.pos hok.len hE hw hk hjl).1 h2⟩
 have hdom:∀ {j:Nat} {at_ u q:Int},j<f.qa.length->Cc (Bg 0 f.qa) u=some ((j:Int),q)->(∃l,Way (Ac f).qa l i)->(j=i/\q<=at_\/j≠i/\MZ (Ac f).qa j i)->CP (Bg 0 f.qa) (B8 (Ac f).qa) i at_ u=true:=λ {j at_ u q} hj hg hw hor=>by
  unfold CP;rw [hg];dsimp only;rcases hor with ⟨rfl,h2⟩ | ⟨h1,h2⟩
  .simp [h2]
  have hh:((B8 (Ac f).qa).at i).has j=true:=(Bi hgpos hl hEg hw hil (by omega)).2 h2;rw [Ybp,hh];have hne:¬(j:Int)=(i:Int):=λe=>h1 (by omega);simp [hne]
 rcases hget i c hi with ⟨b,to,hb,rfl,hto,hes⟩ | ⟨m,k,e,b,rfl,hx,rfl,hb,hm⟩
 .have hu:=EE.1 fi.uses i b hb;rw [Ybi] at hu;have hin:i<f.qa.length:=(Yc.1 hb).1
  have hfine:∀n u,CP (Bg 0 f.qa) (B8 f.qa) i n u=true->CP (Bg 0 f.qa) (B8 (Ac f).qa) i n u=true:=λn u hf=>by
   obtain⟨j,q,hj,hg,hor⟩:=hknow hin hf
   by_cases hr:∃l,Way (Ac f).qa l i
   .refine hdom hj hg hr ?_;exact (hor ((RX h hE hin).1 hr)).imp id λh1=>⟨h1.1,(Uo h hE hj hin).2 h1.2⟩
   exact hunseen hr (by rw [hg];rfl)
  refine⟨Im hfine hu.1,?_⟩;have h2:=hu.2;show Fx { b.qb with to:=to } (CP _ _ i b.ins.length)=true;unfold Fx at h2 ⊢;dsimp only;split at h2
  .cases h2
  rename_i h1
  rw [if_neg (λ h3=>h1 ⟨h3.1,by
   cases hc:CP (Bg 0 f.qa) (B8 f.qa) i b.ins.length b.qb.arg with
   | false=>rfl
   | true=>rw [hfine _ _ hc] at h3;exact absurd h3.2 (by decide)⟩)]
  rw [Ys] at h2 ⊢;intro e' he';rcases hes e' he' with h4 | ⟨m,e,_,rfl⟩
  .have:=h2 e' h4;rw [Ys] at this ⊢;exact λu hu2=>hfine _ u (this u hu2)
  rfl
 refine⟨rfl,?_⟩;have hkl:k<f.qa.length:=(Yc.1 hb).1;have hu:=(EE.1 fi.uses k b hb).2;rw [Ybi] at hu
 have hall:=(Ys.1 (show b.qb.to.all (λ e=>e.args.all (CP (Bg 0 f.qa) (B8 f.qa) k b.ins.length))=true by
  unfold Fx at hu;split at hu
  .cases hu
  exact hu)) e hm
 rw [Ys] at hall;show Fx ⟨1,0,0,[],[e]⟩ _=true;unfold Fx;rw [if_neg (λ h3=>h3.1.1 rfl),Ys];intro e' he';rw [Yl.1 he',Ys];intro u hu2;obtain ⟨j,q,hj,hg,hor⟩:=hknow hkl (hall u hu2)
 by_cases hr:∃l,Way (Ac f).qa l (f.qa.length+m)
 .refine hdom hj hg hr (.inr ⟨by omega,λl hw=> .inr ?_⟩);obtain ⟨g1,l0,w0,s0⟩:=(K3 h hE hw).2 m k e rfl hx;rcases hor ⟨l0,w0⟩ with ⟨rfl,_⟩ | ⟨_,hd⟩
  .exact g1
  rcases hd l0 w0 with rfl | hd
  .exact g1
  exact s0 j hd
 exact hunseen hr (by rw [hg];rfl)
def HZ (t:Nat)(l:List Am):Nat:=l.countP λe=>decide (e.block.toNat=t)
def EJ (t:Nat):List Aa->Nat
 | []=>0
 | b::l=>HZ t b.qb.to+EJ t l
def LW (t:Nat)(X:Cut):Nat:=X.countP λx=>decide (x.2.block.toNat=t)
theorem Dl (t:Nat)(e:Am)(l:List Am):HZ t (e::l)=HZ t l+if e.block.toNat=t then 1 else 0:=by
 unfold HZ;rw [List.countP_cons];simp
theorem Io (t:Nat):∀a b:List Aa,EJ t (a++b)=EJ t a+EJ t b
 | [],b=>by rw [Yab,EJ,Ybi]
 | x::a,b=>by rw [Yam,EJ,EJ,Io t a b];omega
theorem Ip (t:Nat)(X Y:Cut):LW t (X++Y)=LW t X+LW t Y:=List.countP_append
theorem M7 (t k:Nat)(e:Am):LW t [(k,e)]=if e.block.toNat=t then 1 else 0:=by
 unfold LW;rw [List.countP_singleton];simp
theorem Xy {k t:Nat}{P:List (List Int)}{e:Am}(ht:t<P.length):((FT k P e)[t]?.getD []).length=(P[t]?.getD []).length+if e.block.toNat=t then 1 else 0:=by
 unfold FT;rw [Yr]
 by_cases h:e.block.toNat=t
 .rw [if_pos h,if_pos h,if_pos (by omega),Option.getD_some,Yi,h];rfl
 rw [if_neg h,if_neg h,Ybj]
theorem Ph {k t:Nat}:∀ {l:List Am} {P:List (List Int)},t<P.length->((l.foldl (FT k) P)[t]?.getD []).length=(P[t]?.getD []).length+HZ t l
 | [],P,_=>rfl
 | e::l,P,ht=>by rw [Yp,Ph (by rw [Hl];exact ht),Xy ht,Dl];omega
theorem Pi {t:Nat}:∀ {l:List Aa} {k:Nat} {P:List (List Int)},t<P.length->((Hk k l P)[t]?.getD []).length=(P[t]?.getD []).length+EJ t l
 | [],k,P,_=>rfl
 | b::l,k,P,ht=>by rw [Hk,Pi (by rw [HT,Hm];exact ht),HT,Ph ht,EJ];omega
theorem K4 {bs:List Aa}{t:Nat}(ht:t<bs.length):((CV bs)[t]?.getD []).length=EJ t bs:=by
 unfold CV;rw [Pi (by rw [Yq];exact ht),Yad,if_pos ht];simp
theorem Qs (c:Am->Bool){n t:Nat}(k:Nat)(ht:t<n):∀(l:List Am) (X:Cut),HZ t (spE c n k l X).1+LW t (spE c n k l X).2=HZ t l+LW t X
 | [],X=>rfl
 | e::l,X=>by
  rw [spE];split
  .dsimp only;have h:=Qs c k ht l (X++ [(k,e)]);rw [Ip,M7] at h;rw [Dl,Dl,if_neg (by dsimp only;omega)];omega
  dsimp only;have h:=Qs c k ht l X;rw [Dl,Dl];omega
theorem VP (c:Aa->Am->Bool){n t:Nat}(ht:t<n):∀(l:List Aa) (k:Nat) (X:Cut),EJ t (spB c n k l X).1+LW t (spB c n k l X).2=EJ t l+LW t X
 | [],k,X=>rfl
 | b::l,k,X=>by
  rw [spB];dsimp only;rw [EJ,EJ];have h1:=Qs (c b) k ht b.qb.to X;have h2:=VP c ht l (k+1) (spE (c b) n k b.qb.to X).2;show HZ t (spE (c b) n k b.qb.to X).1+_+_=_;omega
theorem M8 (t:Nat):∀E:Cut,EJ t (E.map λx=>GS x.2)=LW t E
 | []=>rfl
 | (k,e)::E=>by
  have h:(k,e)::E= [(k,e)]++E:=rfl;rw [Yt,EJ,M8 t E,h,Ip,M7];show HZ t [e]+_=_;rw [Dl];show 0+_+_=_;omega
theorem Qt (c:Am->Bool){n:Nat}(k j:Nat):∀(l:List Am) (X:Cut),(∀e∈l,e.block.toNat<n)->HZ (n+j) (spE c n k l X).1<=if X.length<=j/\j<(spE c n k l X).2.length then 1 else 0
 | [],X,_=>Ybg _
 | e::l,X,h=>by
  have he:=h e (Yb ..);have hl:∀e∈l,e.block.toNat<n:=λx hx=>h x (Yd _ hx);rw [spE];split
  .dsimp only;have h1:=Qt c k j l (X++ [(k,e)]) hl;obtain ⟨Y,h2,_⟩:=IU c n k l (X++ [(k,e)]);have h3:(spE c n k l (X++ [(k,e)])).2.length=X.length+1+Y.length:=by rw [h2,Yi,Yi];rfl
   rw [h3] at h1 ⊢;rw [Yi,List.length_singleton] at h1;rw [Dl];dsimp only;split at h1 <;> split <;> split <;> omega
  dsimp only;have h1:=Qt c k j l X hl;rw [Dl,if_neg (by omega)];exact h1
theorem VQ (c:Aa->Am->Bool){n:Nat}(j:Nat):∀(l:List Aa) (k:Nat) (X:Cut),(∀b∈l,∀e∈b.qb.to,e.block.toNat<n)->EJ (n+j) (spB c n k l X).1<=if X.length<=j/\j<(spB c n k l X).2.length then 1 else 0
 | [],k,X,_=>Ybg _
 | b::l,k,X,h=>by
  rw [spB];dsimp only;rw [EJ];have h1:=Qt (c b) (n:=n) k j b.qb.to X (h b (Yb ..));have h2:=VQ c (n:=n) j l (k+1) (spE (c b) n k b.qb.to X).2 λx hx=>h x (Yd _ hx);obtain ⟨Y,h3,_⟩:=IU (c b) n k b.qb.to X;obtain ⟨Z,h4,_⟩:=J9 c n l (k+1) (spE (c b) n k b.qb.to X).2;have h5:(spE (c b) n k b.qb.to X).2.length=X.length+Y.length:=by rw [h3,Yi]
  have h6:(spB c n (k+1) l (spE (c b) n k b.qb.to X).2).2.length=X.length+Y.length+Z.length:=by rw [h4,Yi,h5]
  rw [h6] at h2 ⊢;rw [h5] at h1 h2;show HZ (n+j) (spE (c b) n k b.qb.to X).1+_<=_;split at h1 <;> split at h2 <;> split <;> omega
theorem RZ {n j:Nat}:∀E:Cut,(∀x∈E,x.2.block.toNat<n)->LW (n+j) E=0
 | [],_=>rfl
 | (k,e)::E,h=>by
  have h1:(k,e)::E= [(k,e)]++E:=rfl;have h2:=h (k,e) (Yb ..);rw [h1,Ip,M7,if_neg (by dsimp only at h2;omega),RZ E λx hx=>h x (Yd _ hx)]
section
variable {f:Ai}(hf:CA f)
include hf
omit hf in
theorem Xz {t:Nat}(ht:t<f.qa.length):EJ t (Ac f).qa=EJ t f.qa:=by
 have h:=VP (B4 f.qa) ht f.qa 0 [];unfold Ac;dsimp only;rw [Io,M8];have e:LW t []=0:=rfl;rw [e] at h;exact h
theorem XA {j:Nat}:EJ (f.qa.length+j) (Ac f).qa<=1:=by
 have hE:=hf.edges;have h1:=VQ (B4 f.qa) (n:=f.qa.length) j f.qa 0 [] λb hb e he=>by have:=hE b hb e he;omega
 unfold Ac;dsimp only;rw [Io,M8,RZ]
 .show EJ _ (spB (B4 f.qa) f.qa.length 0 f.qa []).1+0<=1;split at h1 <;> omega
 intro x hx;obtain ⟨Y,h2,h3⟩:=J9 (B4 f.qa) f.qa.length f.qa 0 [];have hx:x∈(spB (B4 f.qa) f.qa.length 0 f.qa []).2:=hx;rw [h2] at hx;obtain ⟨i,b,hb,_,hm⟩:=h3 x hx;have:=hE b (Ya hb) x.2 hm;omega
end
theorem M9 (c:Am->Bool)(n k:Nat):∀(l:List Am) (X:Cut),∀x∈(spE c n k l X).1,(x∈l/\c x=false)\/∃m,x=⟨((n+m:Nat):Int),[]⟩
 | [],X,x,hx=>by cases hx
 | e::l,X,x,hx=>by
  rw [spE] at hx;split at hx
  .rcases Ye.1 hx with rfl | hx
   .exact .inr ⟨_,rfl⟩
   exact(M9 c n k l _ x hx).imp (λ h=>⟨Yd _ h.1,h.2⟩) id
  rename_i hc;rcases Ye.1 hx with rfl | hx
  .exact .inl ⟨Yb ..,by simpa using hc⟩
  exact(M9 c n k l _ x hx).imp (λ h=>⟨Yd _ h.1,h.2⟩) id
theorem R0 (c:Aa->Am->Bool)(n:Nat):∀(l:List Aa) (k:Nat) (X:Cut),∀y∈(spB c n k l X).1,∃b∈l,∃to,y=Ce b to/\to.length=b.qb.to.length/\∀x∈to,(x∈b.qb.to/\c b x=false)\/∃m,x=⟨((n+m:Nat):Int),[]⟩
 | [],k,X,y,hy=>by cases hy
 | b::l,k,X,y,hy=>by
  rw [spB] at hy;rcases Ye.1 hy with rfl | hy
  .exact ⟨b,Yb ..,_,rfl,J8 ..,M9 (c b) n k b.qb.to X⟩
  obtain⟨d,hd,h⟩:=R0 c n l (k+1) _ y hy;exact ⟨d,Yd _ hd,h⟩
theorem Na {f:Ai}(h0:Bu f=0)(hl:(Ac f).qa.length<=128):∀c∈(Ac f).qa,∀x∈c.qb.to,B4 (Ac f).qa c x=false:=λc hc x hx=>by
 have hok:=Bf h0;have gok:=Bf (DA h0 hl);have hgE:=gok.edges c hc x hx
 have key:(c.qb.to.length:Int)<2\/(((CV (Ac f).qa)[x.block.toNat]?.getD []).length:Int)<2:=by
  rw [K4 (by omega)];have hc2:=hc;unfold Ac at hc2;rcases Yv.1 hc2 with h1 | h1
  .obtain ⟨b,hb,to,rfl,hto,h2⟩:=R0 (B4 f.qa) f.qa.length f.qa 0 [] c h1;have hx:x∈to:=hx;rcases h2 x hx with ⟨h3,h4⟩ | ⟨m,rfl⟩
   .have hE:=hok.edges b hb x h3;unfold B4 at h4;rw [K4 (by omega)] at h4
    have h5:(b.qb.to.length:Int)<2\/((EJ x.block.toNat f.qa:Nat):Int)<2:=by
     have h6:2<=(b.qb.to.length:Int)->((EJ x.block.toNat f.qa:Nat):Int)<2:=by simpa using h4
     by_cases h7:(b.qb.to.length:Int)<2
     .exact .inl h7
     exact .inr (h6 (by omega))
    rcases h5 with h5 | h5
    .left;show(to.length:Int)<2;rw [hto];exact h5
    right;rw [Xz (by omega)];exact h5
   right;have:=XA hok (j:=m);rw [show (({ block:=((f.qa.length+m:Nat):Int),args:= [] }:Am).block).toNat=f.qa.length+m from Ybp _];omega
  obtain⟨y,_,rfl⟩:=Yg.1 h1;left;show ((1:Nat):Int)<2
  decide
 unfold B4;rcases key with h | h
 .rw [decide_eq_true h];rfl
 rw [decide_eq_true h,Bool.or_true];rfl
abbrev Mv:=Int×Int
def mvV (p:Mv):V:= .agg [.int p.1, .int p.2]
abbrev Jz (l:List Mv):V:= .sl 2 none (l.map mvV)
def FM (spare:Int):List Mv->List Mv->Int
 | _,[]=>0
 | pre,x::l=>if x.1<0\/x.2<0 then 4 else if (pre.any λy=>y.1==x.1)=true then 7 else if x.1=spare\/x.2=spare then 1 else FM spare (pre++ [x]) l
def LC (left:List Mv):Int:=idxOf (λ x=> !(left.any λy=>y.2==x.1)) left
def FB (spare v:Int)(p:Mv):Mv:=if p.2=v then (p.1,spare) else p
def DM (spare:Int)(s:List Mv×List Mv):List Mv×List Mv:=
 if LC s.1<0 then
  let v:=(s.1[0]?.getD (0,0)).1
  let left:=s.1.map (FB spare v)
  (left.eraseIdx 0,(s.2++ [(spare,v)])++ [left[0]?.getD (0,0)])
 else (s.1.eraseIdx (LC s.1).toNat,s.2++ [s.1[(LC s.1).toNat]?.getD (0,0)])
def Dy (spare:Int):Nat->List Mv×List Mv->List Mv×List Mv
 | 0,s=>s
 | n+1,s=>Dy spare n (DM spare s)
def FC (l:List Mv):List Mv:=l.filter λx=> !(x.1==x.2)
def E8 (l:List Mv)(spare:Int):List Mv×Int:=
 if FM spare [] l=0 then ((Dy spare (FC l).length (FC l,[])).2,0) else ([],FM spare [] l)
theorem Kb (l:List Mv):∀x∈l.map mvV,x.leaves.length=2:=λx hx=>by
 obtain⟨n,_,rfl⟩:=Yg.1 hx;rfl
theorem Add (l:List Mv):∀x∈l.map mvV,x.flat=true:=λx hx=>by
 obtain⟨n,_,rfl⟩:=Yg.1 hx;rfl
abbrev mvL (l:List Mv):List V:=(l.map mvV).flatMap V.leaves
theorem Nb (p:Mv)(l:List Mv):mvL (p::l)=V.int p.1::V.int p.2::mvL l:=rfl
theorem Kc (a b:List Mv):mvL (a++b)=mvL a++mvL b:=by simp [mvL]
theorem ER:∀l:List Mv,(mvL l).length=l.length*2
 | []=>rfl
 | p::l=>by rw [Nb,Yf,Yf,ER,Yf];omega
theorem Kd (l:List Mv)(rest:List V){k:Nat}(hk:k<=l.length):(mvL l++rest).take (k*2)=mvL (l.take k):=by
 conv=>lhs;rw [<- Yas k l,Kc,Yj]
 rw [List.take_append_of_le_length (by rw [ER,Yal];omega),Yat (by rw [ER,Yal];omega)]
theorem Nc (l:List Mv)(rest:List V){k:Nat}(hk:k<=l.length):(mvL l++rest).drop (k*2)=mvL (l.drop k)++rest:=by
 conv=>lhs;rw [<- Yas k l,Kc,Yj]
 have h:(mvL (l.take k)).length=k*2:=by rw [ER,Yal];omega
 rw [<- h,List.drop_left]
theorem AaU {l:List Mv}{rest:List V}{k:Nat}{p:Mv}(h:l[k]? =some p):(mvL l++rest)[k*2]? =some (V.int p.1):=by
 obtain⟨hk,_⟩:=Yc.1 h;have h2:((mvL l++rest).drop (k*2))[0]? =some (V.int p.1):=by rw [Nc l rest (by omega),Ag h];rfl
 rwa [Yai,Ybj] at h2
theorem AaV {l:List Mv}{rest:List V}{k:Nat}{p:Mv}(h:l[k]? =some p):(mvL l++rest)[k*2+1]? =some (V.int p.2):=by
 obtain⟨hk,_⟩:=Yc.1 h;have h2:((mvL l++rest).drop (k*2))[1]? =some (V.int p.2):=by rw [Nc l rest (by omega),Ag h];rfl
 rwa [Yai] at h2
theorem AaW {l:List Mv}{rest:List V}{k:Nat}{p:Mv}(h:l[k]? =some p)(v:Int):(mvL l++rest).set (k*2+1) (V.int v)=mvL (l.set k (p.1,v))++rest:=by
 obtain⟨hk,he⟩:=Yc.1 h
 have h1:mvL l++rest=mvL (l.take k)++(V.int p.1::V.int p.2::(mvL (l.drop (k+1))++rest)):=by
  conv=>lhs;rw [<- Yas k l,Ag h,Kc,Nb]
  simp
 have h2:mvL (l.set k (p.1,v))++rest=mvL (l.take k)++(V.int p.1::V.int v::(mvL (l.drop (k+1))++rest)):=by
  rw [List.set_eq_take_append_cons_drop,if_pos hk,Kc,Nb];simp
 have h3:(mvL (l.take k)).length=k*2:=by rw [ER,Yal];omega
 rw [h1,h2,List.set_append_right _ _ (by omega),h3,show k*2+1 - k*2=1 by omega];rfl
theorem R1 {l:List Mv}{rest Y:List V}{i:Nat}(hi:i<l.length):(mvL l++rest).take (i*2)++(((mvL l++rest).drop ((i+1)*2)).take ((l.length - (i+1))*2)++Y)=mvL (l.eraseIdx i)++Y:=by
 rw [Kd l rest (by omega),Nc l rest (by omega)];have h:=Kd (l.drop (i+1)) rest (k:=l.length - (i+1)) (by rw [List.length_drop];omega);rw [h,Yat (l:=l.drop (i+1)) (by rw [List.length_drop];omega),List.eraseIdx_eq_take_drop_succ,Kc,Yj]
theorem XB {l:List Mv}{rest Y:List V}{i cap:Nat}(hi:i<l.length)(hc:l.length<=cap):(mvL l++rest).take (i*2)++(((mvL l++rest).drop (if cap=i+1 then 0 else 0+(i+1)*2)).take ((l.length - (i+1))*2)++Y)=mvL (l.eraseIdx i)++Y:=by
 by_cases h:cap=i+1
 .have h2:l.length - (i+1)=0:=by omega
  rw [<- R1 (rest:=rest) hi,h2,Nat.zero_mul,List.take_zero,List.take_zero]
 rw [if_neg h,Ybi,R1 hi]
theorem Iq {l:List Mv}{k:Nat}{p:Mv}(h:l[k]? =some p):(l.map mvV)[k]? =some (mvV p):=by simp [h]
theorem R2 {l:List Mv}{k:Nat}{p:Mv}(f:Mv->Mv)(h:l[k]? =some p):(((l.take k).map f++l.drop k).set k (f p))=(l.take (k+1)).map f++l.drop (k+1):=by
 obtain⟨hk,_⟩:=Yc.1 h;have hl:((l.take k).map f).length=k:=by rw [Yh,Yal];omega
 rw [AD h,Yaa,Ag h,List.set_append_right _ _ (by omega),hl,Ybk];simp
theorem Qu {l:List Mv}{k:Nat}{p:Mv}(f:Mv->Mv)(h:l[k]? =some p):((l.take k).map f++l.drop k)[k]? =some p:=by
 obtain⟨hk,_⟩:=Yc.1 h;have hl:((l.take k).map f).length=k:=by rw [Yh,Yal];omega
 rw [Yx (by omega),hl,Ybk,Yai];exact h
theorem Nf {spare:Int}{left out:List Mv}{x:Mv}(h:LC left<0)(hx:left[0]? =some x){y:Mv}(hy:(left.map (FB spare x.1))[0]? =some y):DM spare (left,out)=((left.map (FB spare x.1)).eraseIdx 0,(out++ [(spare,x.1)])++ [y]):=by
 have hy2:=hy;unfold DM;dsimp only;rw [if_pos h,hx];dsimp only [Option.getD];rw [hy2]
theorem Pj {spare:Int}{left out:List Mv}{m:Nat}{y:Mv}(h:LC left=(m:Int))(hy:left[m]? =some y):DM spare (left,out)=(left.eraseIdx m,out++ [y]):=by
 unfold DM;dsimp only;rw [if_neg (by omega),h,Ybp,hy];rfl
def E2 (v:Int):Bool:=decide (v ≥ 0)&&decide (v<4096)
def D0 (i:AQ):Int:=
 if (!E2 i.to||i.args.any λa=> !E2 a)=true then 4 else if i.op≠100 then FQ i else if (i.args.length:Int)≠1 then 3 else if i.n≠0 then 4 else 0
def Cf:List Int->List Int->Int
 | _,[]=>0
 | done,v::l=>if E2 v=false then 4 else if (done.any λx=>decide (v=x))=true then 7 else Cf (done++ [v]) l
def IV (bs:List Aa)(k:Nat)(b:Aa):Int:=
 if (0:Int)<k/\0<(b.params.length:Int) then 3 else if Cf [] b.params≠0 then Cf [] b.params else if Ax D0 b.ins≠0 then Ax D0 b.ins
 else if HX bs b.qb≠0 then HX bs b.qb else if E2 b.qb.arg=false then 4 else 0
def DB (bs:List Aa):Nat->List Aa->Int
 | _,[]=>0
 | k,b::l=>if IV bs k b≠0 then IV bs k b else DB bs (k+1) l
def B6 (f:Ai):Int:=
 if (f.qa.length:Int)=0 then 3
 else if 128<(f.qa.length:Int)\/4096<BX 0 f.qa\/6<((AI f.qa 0).length:Int) then 2
 else if f.name< -1\/f.name ≥ 1048576 then 4
 else DB f.qa 0 f.qa
def Cn (u:Ao):Int:=
 if (u.fns.length:Int)=0 then 3 else if 256<(u.fns.length:Int) then 2 else if u.main<0\/u.main ≥ (u.fns.length:Int) then 4
 else if Ax B6 u.fns≠0 then Ax B6 u.fns
 else if (AT u u.main).length>0 then 3 else G4 u
theorem Dt {α:Type}{f:α->Int}:∀ {l:List α},Ax f l=0->∀x∈l,f x=0
 | [],_,x,hx=>by cases hx
 | y::l,h,x,hx=>by
  rw [Ax] at h;split at h
  .rename_i hy;exact absurd h hy
  rename_i hy;rcases Ye.1 hx with rfl | hx
  .exact Classical.not_not.1 hy
  exact Dt h x hx
structure Ng (bs:List Aa)(k:Nat)(b:Aa):Prop where
 params:0<k->b.params= []
 vars:Cf [] b.params=0
 ins:∀i∈b.ins,D0 i=0
 qb:HX bs b.qb=0
 arg:E2 b.qb.arg=true
theorem XC {bs:List Aa}{k:Nat}{b:Aa}(h:IV bs k b=0):Ng bs k b:=by
 unfold IV at h;split at h
 .cases h
 rename_i h1;split at h
 .rename_i h2;exact absurd h h2
 rename_i h2;split at h
 .rename_i h3;exact absurd h h3
 rename_i h3;split at h
 .rename_i h4;exact absurd h h4
 rename_i h4;split at h
 .cases h
 rename_i h5;refine ⟨λ hk=> ?_,Classical.not_not.1 h2,Dt (Classical.not_not.1 h3),Classical.not_not.1 h4,by simpa using h5⟩;apply Yaq.1;omega
theorem Nh {bs:List Aa}:∀ {l:List Aa} {k:Nat},DB bs k l=0->∀(j:Nat) (b:Aa),l[j]? =some b->Ng bs (k+j) b
 | [],k,_,j,b,hb=>by simp at hb
 | c::l,k,h,j,b,hb=>by
  rw [DB] at h;split at h
  .rename_i hc;exact absurd h hc
  rename_i hc
  cases j with
  | zero=>
   simp at hb;subst hb;exact XC (Classical.not_not.1 hc)
  | succ j=>
   simp at hb;have:=Nh h j b hb
   rwa [show k+1+j=k+(j+1) by omega] at this
structure Ke (f:Ai):Prop where
 pos:0<f.qa.length
 len:f.qa.length<=128
 params:(AI f.qa 0).length<=6
 name: -1<=f.name/\f.name<1048576
 block:∀(k:Nat) (b:Aa),f.qa[k]? =some b->Ng f.qa k b
theorem CX {f:Ai}(h:B6 f=0):Ke f:=by
 unfold B6 at h;split at h
 .cases h
 rename_i h1;split at h
 .cases h
 rename_i h2;split at h
 .cases h
 rename_i h3;refine ⟨by omega,by omega,by omega,by omega,λk b hb=> ?_⟩;have:=Nh h k b hb
 rwa [Ybi] at this
theorem Ke.ne {f:Ai}(h:Ke f):f.qa≠ []:=λe=>by have:=h.pos;rw [e] at this;simp at this
structure Qv (u:Ao):Prop where
 many:u.fns.length<=256
 main:0<=u.main/\u.main<u.fns.length
 fns:∀f∈u.fns,Ke f
 entry:AT u u.main= []
 calls:∀f∈u.fns,∀b∈f.qa,∀i∈b.ins,CG u i=0
theorem K5 {u:Ao}(h:Cn u=0):Qv u:=by
 unfold Cn at h;split at h
 .cases h
 split at h
 .cases h
 split at h
 .cases h
 split at h
 .rename_i h4;exact absurd h h4
 rename_i h1 h2 h3 h4;split at h
 .cases h
 rename_i h5;have hc:=Dt h;exact ⟨by omega,by omega,λf hf=>CX (Dt (Classical.not_not.1 h4) f hf),Yaq.1 (by omega),λf hf b hb i hi=>Dt (Dt (hc f hf) b hb) i hi⟩
theorem AaX {f:Ai}(h:Ke f){b:Aa}{k:Nat}(hb:f.qa[k]? =some b):FO f b.qb:=by
 have he:=CN (h.block k b hb).qb;have hs:=he.shape;unfold Dh at hs;refine ⟨λ h1=> ?_,λh2=> ?_,λh0 h1 h2 h4=> ?_,λe hm=> ?_⟩
 .rw [if_neg (by omega),if_pos h1] at hs;simp at hs;omega
 .rw [if_neg (by omega),if_neg (by omega),if_pos h2] at hs;simp at hs;omega
 .rw [if_neg h0,if_neg h1,if_neg h2] at hs;split at hs
  .simp at hs;omega
  .first | cases hs | (rw [if_neg h4] at hs;cases hs)
 obtain⟨e1,e2,e3⟩:=he.edges e hm;obtain ⟨c,hc⟩:=Ab f.qa e.block.toNat (by omega);rw [Br hc] at e3;have hp:=(h.block _ c hc).params (by omega);exact ⟨by omega,⟨c,hc,e3⟩,by rw [e3,hp];simp⟩
theorem Ade {u:Ao}{i:AQ}(h:D0 i=0)(hc:CG u i=0):Wj u i:=by
 unfold D0 at h;split at h
 .cases h
 split at h
 .exact PH h hc
 rename_i h2;have h2:=Classical.not_not.1 h2;split at h
 .cases h
 rename_i h3;have h3:i.args.length=1:=by omega
 refine⟨λ _ _=>⟨by rw [h2];rfl,by omega,λh=> ?_,λ_=>h3,λh=> ?_,λh=> ?_⟩,λh=> ?_,λh=> ?_,λh=> ?_,by omega⟩
 .rw [h2] at h;cases h
 all_goals omega
theorem Qv.u {u:Ao}(h:Qv u):UOk u:=
 ⟨h.main,h.entry,λf hf=>(h.fns f hf).ne,λf hf b hb=>by
  obtain⟨k,hk⟩:=Yk hb;exact AaX (h.fns f hf) hk,λf hf b hb i hi=>by
  obtain⟨k,hk⟩:=Yk hb;exact Ade (((h.fns f hf).block k b hk).ins i hi) (h.calls f hf b hb i hi)⟩
def Aem (o:List Bool)(l:List Int):List Bool:=l.foldl (λ s a=>s.set a.toNat true) o
def Aen:List AQ->List Bool->List Bool
 | [],s=>s
 | i::l,s=>Aen l (Aem (s.set i.to.toNat false) i.args)
def Agk (b:Aa)(s:List Bool):List Bool:=Aen b.ins.reverse s
def AaY (ps:List Int):Nat->List Bool->List Bool->List Bool
 | _,[],o=>o
 | v,is::l,o=>AaY ps (v+1) l (if (is&& !(ps.any λx=>decide ((v:Int)=x)))=true then o.set v true else o)
abbrev AaZ:=List (Option (List Bool))
def Aeo (s:AaZ)(k:Nat):List Bool:=(s[k]?.getD none).getD []
def Aa0 (bs:List Aa)(first:AaZ):List Am->List Bool->List Bool
 | [],o=>o
 | e::l,o=>Aa0 bs first l (AaY (AI bs e.block) 0 (Aeo first e.block.toNat) o)
def Aep:List Am->List Bool->List Bool
 | [],o=>o
 | e::l,o=>Aep l (Aem o e.args)
def Ae7 (t:BG)(o:List Bool):List Bool:=if t.kind≠1/\t.kind≠4 then o.set t.arg.toNat true else o
def Agl (bs:List Aa)(many:Nat)(t:BG)(first:AaZ):List Bool:=Aep t.to (Ae7 t (Aa0 bs first t.to (Ym many false)))
structure Ae8 where
 behind:AaZ
 first:AaZ
 again:Bool
def Ae9 (s:List Bool)(v:Nat):Prop:=s[v]? =some true
def Adf (t:BG)(v:Nat):Prop:=(t.kind≠1/\t.kind≠4)/\t.arg.toNat=v\/∃e∈t.to,∃a∈e.args,a.toNat=v
def Exp (l:List AQ)(v:Nat):Prop:=∃(j:Nat) (i:AQ),l[j]? =some i/\(∃a∈i.args,a.toNat=v)/\∀(j':Nat) (x:AQ),j'<j->l[j']? =some x->x.to.toNat≠v
theorem Exp.append {l:List AQ}{v:Nat}(h:Exp l v)(m:List AQ):Exp (l++m) v:=by
 obtain⟨j,i,h1,h2,h3⟩:=h;have hj:=(Yc.1 h1).1;exact ⟨j,i,by rw [Yac hj];exact h1,h2,λj' x hlt hx=>h3 j' x hlt (by rwa [Yac (by omega)] at hx)⟩
inductive Ni (bs:List Aa)(v:Nat):Nat->Prop where
 | use {k:Nat} {b:Aa}:bs[k]? =some b->Exp b.ins v->Ni bs v k
 | qb {k:Nat} {b:Aa}:bs[k]? =some b->(∀x∈b.ins,x.to.toNat≠v)->Adf b.qb v->Ni bs v k
 | pass {k:Nat} {b:Aa} {e:Am}:bs[k]? =some b->(∀x∈b.ins,x.to.toNat≠v)->e∈b.qb.to->(v:Int)∉AI bs e.block->Ni bs v e.block.toNat->Ni bs v k
def AgS (s t:List Bool):Prop:=∀v,Ae9 s v->Ae9 t v
structure AgT (bs:List Aa)(many:Nat)(s:Ae8):Prop where
 blen:s.behind.length=bs.length
 flen:s.first.length=bs.length
 emp:∀(k:Nat),s.behind[k]? =some none->s.first[k]? =some none
 full:∀(k:Nat) (l:List Bool),s.behind[k]? =some (some l)->l.length=many/\∃b,bs[k]? =some b/\s.first[k]? =some (some (Agk b l))/\AgS l (Agl bs many b.qb s.first)
 live:∀(k v:Nat),Ae9 (Aeo s.first k) v->Ni bs v k
theorem R3 {v:Int}{p:Int×Int}:∀ {d:BB},Cc d v=some p->(v,p)∈d
 | [],h=>by cases h
 | (k,q)::d,h=>by
  rw [Cc] at h;split at h
  .rename_i e;subst e;injection h with h;subst h;exact Yb ..
  exact Yd _ (R3 h)
theorem LD {d:BB}{o:Dom}{k:Nat}:∀ {l:List AQ} {n:Int},C6 d o k n l=true->∀(j:Nat) (i:AQ),l[j]? =some i->∀a∈i.args,CP d o k (n+j) a=true
 | [],n,h,j,i,hi=>by simp at hi
 | x::l,n,h,j,i,hi=>by
  rw [C6,Bool.and_eq_true,Ys] at h
  cases j with
  | zero=>
   simp at hi;subst hi;intro a ha;have:=h.1 a ha;simpa using this
  | succ j=>
   simp at hi;intro a ha;have:=LD h.2 j i hi a ha
   rwa [show n+1+(j:Int)=n+((j+1:Nat):Int) by omega] at this
theorem Pk {d:BB}{o:Dom}:∀ {l:List Aa} {k:Nat},EC d o k l=0->∀(j:Nat) (b:Aa),l[j]? =some b->C6 d o (k+j) 0 b.ins=true/\Fx b.qb (CP d o (k+j) b.ins.length)=true
 | [],k,h,j,b,hb=>by simp at hb
 | c::l,k,h,j,b,hb=>by
  rw [EC] at h;split at h
  .cases h
  split at h
  .cases h
  rename_i h1 h2
  cases j with
  | zero=>
   simp at hb;subst hb;exact ⟨by simpa using h1,by simpa using h2⟩
  | succ j=>
   simp at hb;have:=Pk h j b hb
   rwa [show k+1+j=k+(j+1) by omega] at this
def Df (bs:List Aa):List Int:=bs.flatMap λb=>b.params++b.ins.map (·.to)
def Ay (bs:List Aa):Int:=(Df bs).foldl (λ n v=>max n (v+1)) 0
theorem Nj:∀(l:List Int) (n:Int),n<=l.foldl (λ n v=>max n (v+1)) n/\∀v∈l,v<l.foldl (λ n v=>max n (v+1)) n
 | [],n=>⟨Ybo _,λv hv=>by cases hv⟩
 | a::l,n=>by
  obtain⟨h1,h2⟩:=Nj l (max n (a+1));rw [Yp];refine ⟨by omega,λv hv=> ?_⟩;rcases Ye.1 hv with rfl | hv
  .omega
  exact h2 v hv
theorem VR {m:Int}:∀(l:List Int) (n:Int),n<=m->(∀v∈l,v<m)->l.foldl (λ n v=>max n (v+1)) n<=m
 | [],n,hn,_=>hn
 | a::l,n,hn,h=>by
  have:=h a (Yb ..);exact VR l _ (by show max n (a+1)<=m;omega) λv hv=>h v (Yd _ hv)
theorem GT {f:Ai}(h:CA f):∀v∈Df f.qa,0<=v/\v<=4095:=λv hv=>h.keys.range v (by rw [GW];exact hv)
theorem R4 {f:Ai}(h:CA f):0<=Ay f.qa/\Ay f.qa<=4096/\∀v∈Df f.qa,v<Ay f.qa:=by
 obtain⟨h1,h2⟩:=Nj (Df f.qa) 0;exact ⟨h1,VR _ 0 (by decide) λv hv=>by have:=GT h v hv;omega,h2⟩
def VS:Nat->List Bool->List Int
 | _,[]=> []
 | v,b::l=>if b=true then (v:Int)::VS (v+1) l else VS (v+1) l
theorem R5:∀(l:List Bool) (w:Nat),(VS w l).length<=l.length
 | [],w=>Ybh _
 | b::l,w=>by
  rw [VS];have:=R5 l (w+1);split <;> simp <;> omega
def mvI (x:Mv):AQ:=⟨x.1,100,0,[x.2]⟩
def DN (bs:List Aa)(e:Am):List Mv:=(AI bs e.block).zip e.args
def AU (bs:List Aa)(e:Am)(sp:Int):List AQ:=(E8 (DN bs e) sp).1.map mvI
def Kf (B:List Aa)(m:Nat)(f:Aa->Aa):List Aa:=B.set m (f (B[m]?.getD default))
def R6 (l:List AQ)(b:Aa):Aa:= { b with ins:=b.ins++l }
def HK (l:List AQ)(b:Aa):Aa:= { b with ins:=l++b.ins }
def Dm (n:Nat)(b:Aa):Aa:=Ce b (b.qb.to.set n ⟨(b.qb.to[n]?.getD default).block,[]⟩)
def R7 (b:Aa):Aa:= { b with qb:=⟨1,0,0,[],b.qb.to⟩ }
def ET (b:Aa):Aa:= { b with params:= [] }
def lvE (bs:List Aa)(sp:Int)(k:Nat)(b:Aa)(n:Nat)(e:Am)(B:List Aa):List Aa:=
 Kf (if b.qb.to.length=1 then Kf B k (R6 (AU bs e sp)) else Kf B e.block.toNat (HK (AU bs e sp))) k (Dm n)
def Nk (bs:List Aa)(sp:Int)(k:Nat)(b:Aa):Nat->List Am->List Aa->List Aa
 | _,[],B=>B
 | n,e::l,B=>Nk bs sp k b (n+1) l (lvE bs sp k b n e B)
def lvB (bs:List Aa)(sp:Int)(k:Nat)(b:Aa)(B:List Aa):List Aa:=
 Nk bs sp k b 0 b.qb.to (if b.qb.kind=3/\b.qb.to.length=1 then Kf B k R7 else B)
def Ir (bs:List Aa)(sp:Int):Nat->List Aa->List Aa->List Aa
 | _,[],B=>B
 | k,b::l,B=>Ir bs sp (k+1) l (lvB bs sp k b B)
def Kg (k:Nat):Nat->List Aa->List Aa
 | _,[]=> []
 | n,b::l=>(if 0<n/\n<k then ET b else b)::Kg k (n+1) l
def Is (g:Ai)(sp:Int):Ai:=⟨g.name,Kg g.qa.length 0 (Ir g.qa sp 0 g.qa g.qa)⟩
def lvF (f:Ai):Ai:=Is (Ac f) (Ay f.qa)
def lvU (u:Ao):Ao:=⟨u.fns.map lvF,u.main⟩
theorem Nl (B:List Aa)(m:Nat)(f:Aa->Aa):(Kf B m f).length=B.length:=Yu ..
theorem Adg (bs:List Aa)(sp:Int)(k:Nat)(b:Aa)(n:Nat)(e:Am)(B:List Aa):(lvE bs sp k b n e B).length=B.length:=by
 unfold lvE;rw [Nl];split <;> rw [Nl]
theorem R8 (bs:List Aa)(sp:Int)(k:Nat)(b:Aa):∀(l:List Am) (n:Nat) (B:List Aa),(Nk bs sp k b n l B).length=B.length
 | [],_,_=>rfl
 | e::l,n,B=>by rw [Nk,R8 bs sp k b l,Adg]
theorem Adh (bs:List Aa)(sp:Int)(k:Nat)(b:Aa)(B:List Aa):(lvB bs sp k b B).length=B.length:=by
 unfold lvB;rw [R8];split
 .rw [Nl]
 rfl
theorem Nm (bs:List Aa)(sp:Int):∀(l:List Aa) (k:Nat) (B:List Aa),(Ir bs sp k l B).length=B.length
 | [],_,_=>rfl
 | b::l,k,B=>by rw [Ir,Nm bs sp l,Adh]
theorem Nn (k:Nat):∀(l:List Aa) (n:Nat),(Kg k n l).length=l.length
 | [],_=>rfl
 | b::l,n=>by rw [Kg,Yf,Nn k l,Yf]
theorem Gv (k:Nat):∀(l:List Aa) (n m:Nat),(Kg k n l)[m]? =(l[m]?).map λb=>if 0<n+m/\n+m<k then ET b else b
 | [],_,_=>rfl
 | b::l,n,0=>rfl
 | b::l,n,m+1=>by
  rw [Kg,Yau,Yau,Gv k l (n+1) m,show n+1+m=n+(m+1) by omega]
theorem Pl (l:List Aa)(n:Nat):Kg 0 n l=l:=by
 apply Ybe;intro m;rw [Gv]
 cases l[m]? with
 | none=>rfl
 | some b=>simp
theorem Aa1 (l:List Aa):Kg 1 0 l=l:=by
 apply Ybe;intro m;rw [Gv]
 cases l[m]? with
 | none=>rfl
 | some b=>show some (if 0<0+m/\0+m<1 then ET b else b)=some b;rw [if_neg (by omega)]
theorem XD {l:List Aa}{k:Nat}(h0:0<k):Kf (Kg k 0 l) k ET=Kg (k+1) 0 l\/l[k]? =none:=by
 cases hl:l[k]? with
 | none=>exact .inr rfl
 | some b=>
  left;apply Ybe;intro m;have hk:=(Yc.1 hl).1;unfold Kf;rw [Yr,Gv,Gv,Gv,hl]
  by_cases e:k=m
  .subst e;rw [if_pos rfl,if_pos (by rw [Nn];exact hk),hl];show some (ET ((some (if 0<0+k/\0+k<k then ET b else b)).getD default))=some (if 0<0+k/\0+k<k+1 then ET b else b);rw [if_neg (by omega),if_pos (by omega)];rfl
  rw [if_neg e]
  cases l[m]? with
  | none=>rfl
  | some c=>
   show some (if 0<0+m/\0+m<k then ET c else c)=some (if 0<0+m/\0+m<k+1 then ET c else c)
   by_cases h:0<0+m/\0+m<k
   .rw [if_pos h,if_pos (by omega)]
   rw [if_neg h,if_neg (by omega)]
theorem R9 (sp:Int)(s:List Mv×List Mv):(DM sp s).2.length<=s.2.length+2:=by
 unfold DM;split
 .dsimp only;rw [Yi,Yi];simp
 dsimp only;rw [Yi];simp
theorem LF (sp:Int):∀(n:Nat) (s:List Mv×List Mv),(Dy sp n s).2.length<=s.2.length+2*n
 | 0,s=>Ybh _
 | n+1,s=>by
  have h1:=R9 sp s;have h2:=LF sp n (DM sp s);rw [Dy];omega
theorem Kh (l:List Mv)(sp:Int):(E8 l sp).1.length<=2*l.length:=by
 unfold E8;split
 .have h:=LF sp (FC l).length (FC l,[]);have h2:(FC l).length<=l.length:=List.length_filter_le _ _;have h3:(FC l,([]:List Mv)).2.length=0:=rfl;rw [h3] at h;show (Dy sp (FC l).length (FC l,[])).2.length<=_;omega
 exact Ybg _
theorem K6 (bs:List Aa)(e:Am):(DN bs e).length<=(AI bs e.block).length:=by
 unfold DN;rw [List.length_zip];omega
theorem No (bs:List Aa)(e:Am)(sp:Int):(AU bs e sp).length<=2*(AI bs e.block).length:=by
 unfold AU;rw [Yh];have h1:=Kh (DN bs e) sp;have h2:=K6 bs e;omega
theorem Ur {bs:List Aa}{e:Am}{c:Aa}{k:Nat}{v a:Int}(hc:bs[e.block.toNat]? =some c)(hv:c.params[k]? =some v)(ha:e.args[k]? =some a):(c.params.zip e.args).take (k+1)=(c.params.zip e.args).take k++ [(v,a)]:=
 AD (List.getElem?_zip_eq_some.2 ⟨hv,ha⟩)
def I7 (e:Am):Am:=⟨e.block,[]⟩
def I8 (bs:List Aa)(sp:Int)(i:Nat):List Am->List AQ
 | []=> []
 | e::l=>I8 bs sp i l++if i=e.block.toNat then AU bs e sp else []
def Gw (bs:List Aa)(sp:Int)(i:Nat):List Aa->List AQ
 | []=> []
 | b::l=>Gw bs sp i l++if b.qb.to.length=1 then [] else I8 bs sp i b.qb.to
def FD (bs:List Aa)(sp:Int)(t:BG):List AQ:=if t.to.length=1 then t.to.flatMap λe=>AU bs e sp else []
def FU (t:BG):BG:=if t.kind=3/\t.to.length=1 then ⟨1,0,0,[],t.to.map I7⟩ else ⟨t.kind,t.arg,t.n,t.cases,t.to.map I7⟩
def Ev (bs:List Aa)(sp:Int)(i:Nat)(b:Aa):Aa:=
 ⟨if 0<i then [] else b.params,Gw bs sp i bs++b.ins++FD bs sp b.qb,FU b.qb⟩
theorem It (B:List Aa)(m:Nat)(f:Aa->Aa)(i:Nat):(Kf B m f)[i]? =(B[i]?).map λc=>if i=m then f c else c:=by
 unfold Kf;rw [Yr]
 by_cases h:m=i
 .subst h;rw [if_pos rfl]
  by_cases hl:m<B.length
  .rw [if_pos hl,Yw hl];show some (f _)=some (if m=m then _ else _);rw [if_pos rfl];rfl
  rw [if_neg hl,Yae (by omega)];rfl
 rw [if_neg h]
 cases B[i]? with
 | none=>rfl
 | some c=>show some c=some (if i=m then f c else c);rw [if_neg (λ e=>h e.symm)]
def Np (bs:List Aa)(sp:Int)(k:Nat)(b:Aa)(n:Nat)(e:Am)(i:Nat)(c:Aa):Aa:=
 if i=k then Dm n (if b.qb.to.length=1 then R6 (AU bs e sp) c else if i=e.block.toNat then HK (AU bs e sp) c else c)
 else if b.qb.to.length=1 then c else if i=e.block.toNat then HK (AU bs e sp) c else c
def Gx (bs:List Aa)(sp:Int)(k:Nat)(b:Aa)(i:Nat):Nat->List Am->Aa->Aa
 | _,[],c=>c
 | n,e::l,c=>Gx bs sp k b i (n+1) l (Np bs sp k b n e i c)
def Oj (bs:List Aa)(sp:Int)(k:Nat)(b:Aa)(i:Nat)(c:Aa):Aa:=
 Gx bs sp k b i 0 b.qb.to (if i=k/\b.qb.kind=3/\b.qb.to.length=1 then R7 c else c)
def Nq (bs:List Aa)(sp:Int)(i:Nat):Nat->List Aa->Aa->Aa
 | _,[],c=>c
 | k,b::l,c=>Nq bs sp i (k+1) l (Oj bs sp k b i c)
section
variable (bs:List Aa)(sp:Int)
theorem Adi (k:Nat)(b:Aa)(n:Nat)(e:Am)(B:List Aa)(i:Nat):(lvE bs sp k b n e B)[i]? =(B[i]?).map (Np bs sp k b n e i):=by
 unfold lvE
 by_cases h1:b.qb.to.length=1
 .rw [if_pos h1,It,It]
  cases B[i]? with
  | none=>rfl
  | some c=>
   show some (if i=k then Dm n (if i=k then _ else c) else (if i=k then _ else c))=some (Np bs sp k b n e i c);unfold Np
   by_cases hik:i=k
   .rw [if_pos hik,if_pos hik,if_pos hik,if_pos h1]
   rw [if_neg hik,if_neg hik,if_neg hik,if_pos h1]
 rw [if_neg h1,It,It]
 cases B[i]? with
 | none=>rfl
 | some c=>
  show some (if i=k then Dm n (if i=e.block.toNat then _ else c) else (if i=e.block.toNat then _ else c))=some (Np bs sp k b n e i c);unfold Np
  by_cases hik:i=k
  .rw [if_pos hik,if_pos hik,if_neg h1]
  rw [if_neg hik,if_neg hik,if_neg h1]
theorem Sc (k:Nat)(b:Aa)(i:Nat):∀(l:List Am) (n:Nat) (B:List Aa),(Nk bs sp k b n l B)[i]? =(B[i]?).map (Gx bs sp k b i n l)
 | [],n,B=>by
  rw [Nk]
  cases B[i]? <;> rfl
 | e::l,n,B=>by
  rw [Nk,Sc k b i l,Adi]
  cases B[i]? <;> rfl
theorem Adj (k:Nat)(b:Aa)(B:List Aa)(i:Nat):(lvB bs sp k b B)[i]? =(B[i]?).map (Oj bs sp k b i):=by
 unfold lvB;rw [Sc]
 by_cases h:b.qb.kind=3/\b.qb.to.length=1
 .rw [if_pos h,It]
  cases B[i]? with
  | none=>rfl
  | some c=>
   show some (Gx bs sp k b i 0 b.qb.to (if i=k then R7 c else c))=some (Oj bs sp k b i c);unfold Oj
   by_cases hk:i=k
   .rw [if_pos hk,if_pos ⟨hk,h⟩]
   rw [if_neg hk,if_neg λhh=>hk hh.1]
 rw [if_neg h]
 cases B[i]? with
 | none=>rfl
 | some c=>
  show some (Gx bs sp k b i 0 b.qb.to c)=some (Oj bs sp k b i c);unfold Oj;rw [if_neg λhh=>h hh.2]
theorem Sd (i:Nat):∀(l:List Aa) (k:Nat) (B:List Aa),(Ir bs sp k l B)[i]? =(B[i]?).map (Nq bs sp i k l)
 | [],k,B=>by
  rw [Ir]
  cases B[i]? <;> rfl
 | b::l,k,B=>by
  rw [Ir,Sd i l,Adj]
  cases B[i]? <;> rfl
theorem Aa2 (c:Aa):HK [] c=c:=rfl
theorem Pm (a b:List AQ)(c:Aa):HK a (HK b c)=HK (a++b) c:=by
 unfold HK;rw [Yj]
theorem LG {k i:Nat}(hik:i≠k)(b:Aa)(h1:b.qb.to.length≠1):∀(l:List Am) (n:Nat) (c:Aa),Gx bs sp k b i n l c=HK (I8 bs sp i l) c
 | [],n,c=>rfl
 | e::l,n,c=>by
  rw [Gx,LG hik b h1 l,I8];unfold Np;rw [if_neg hik,if_neg h1];split
  .rw [Pm]
  rw [Yo]
theorem Pn {k i:Nat}(hik:i≠k)(b:Aa)(h1:b.qb.to.length=1):∀(l:List Am) (n:Nat) (c:Aa),Gx bs sp k b i n l c=c
 | [],n,c=>rfl
 | e::l,n,c=>by
  rw [Gx,Pn hik b h1 l];unfold Np;rw [if_neg hik,if_pos h1]
theorem LH {k:Nat}{b:Aa}{e:Am}{c:Aa}(h1:b.qb.to.length=1)(hc:c.qb.to= [e])(n:Nat)(hn:n=0):Gx bs sp k b k n [e] c=⟨c.params,c.ins++AU bs e sp,⟨c.qb.kind,c.qb.arg,c.qb.n,c.qb.cases,[I7 e]⟩⟩:=by
 subst hn;rw [Gx,Gx];unfold Np;rw [if_pos rfl,if_pos h1];unfold Dm R6 Ce;dsimp only;rw [hc];rfl
theorem Nr {k:Nat}{b:Aa}(h1:b.qb.to.length≠1):∀(l:List Am) (n:Nat) (c:Aa),n+l.length=c.qb.to.length->
  Gx bs sp k b k n l c=⟨c.params,I8 bs sp k l++c.ins,⟨c.qb.kind,c.qb.arg,c.qb.n,c.qb.cases,c.qb.to.take n++(c.qb.to.drop n).map I7⟩⟩
 | [],n,c,h=>by
  rw [Gx,I8,Yab,Yat (by simp at h;omega),List.drop_of_length_le (by simp at h;omega)];simp
 | e::l,n,c,h=>by
  rw [Yf] at h;obtain ⟨x,hx⟩:=Ab c.qb.to n (by omega)
  have hcl:Np bs sp k b n e k c=⟨c.params,(if k=e.block.toNat then AU bs e sp else [])++c.ins,⟨c.qb.kind,c.qb.arg,c.qb.n,c.qb.cases,c.qb.to.set n (I7 x)⟩⟩:=by
   unfold Np;rw [if_pos rfl,if_neg h1];split
   .unfold Dm HK Ce;dsimp only;rw [hx];rfl
   unfold Dm Ce;dsimp only;rw [hx];rfl
  rw [Gx,Nr h1 l (n+1) _ (by rw [hcl];show n+1+l.length=(c.qb.to.set n _).length;rw [Yu];omega),hcl,I8];dsimp only;have hn:=(Yc.1 hx).1;have e2:(c.qb.to.set n (I7 x)).drop (n+1)=c.qb.to.drop (n+1):=by rw [List.drop_set,if_pos (by omega)]
  rw [Fj hn,e2,Ag hx,Yt];simp only [Yj,List.singleton_append]
theorem Ns {k i:Nat}(hik:i≠k)(b c:Aa):Oj bs sp k b i c=HK (if b.qb.to.length=1 then [] else I8 bs sp i b.qb.to) c:=by
 unfold Oj;rw [if_neg λh=>hik h.1]
 by_cases h1:b.qb.to.length=1
 .rw [Pn bs sp hik b h1,if_pos h1,Aa2]
 rw [LG bs sp hik b h1,if_neg h1]
theorem XE {k:Nat}{b c:Aa}(hc:c.qb=b.qb):Oj bs sp k b k c=⟨c.params,(if b.qb.to.length=1 then [] else I8 bs sp k b.qb.to)++c.ins++FD bs sp b.qb,FU b.qb⟩:=by
 unfold Oj
 by_cases h1:b.qb.to.length=1
 .obtain ⟨e,he⟩:=Yaf.1 h1
  have hp:FD bs sp b.qb=AU bs e sp:=by
   unfold FD;rw [if_pos h1,he];simp
  by_cases h3:b.qb.kind=3
  .rw [if_pos ⟨rfl,h3,h1⟩,he,LH bs sp (e:=e) h1 (by show c.qb.to=_;rw [hc,he]) 0 rfl,if_pos (by rfl),hp];unfold FU;rw [if_pos ⟨h3,h1⟩,he];rfl
  rw [if_neg (λ h=>h3 h.2.1),he,LH bs sp (e:=e) h1 (by rw [hc,he]) 0 rfl,if_pos (by rfl),hp];unfold FU;rw [if_neg (λ h=>h3 h.1),he,hc];rfl
 rw [if_neg (λ h=>h1 h.2.2),Nr bs sp h1 b.qb.to 0 c (by rw [hc];omega),if_neg h1]
 have hp:FD bs sp b.qb= []:=by
  unfold FD;rw [if_neg h1]
 rw [hp,Yo];unfold FU;rw [if_neg (λ h=>h1 h.2),hc];rfl
theorem LI {i:Nat}:∀(l:List Aa) (k:Nat) (c:Aa),(i<k\/k+l.length<=i)->Nq bs sp i k l c=HK (Gw bs sp i l) c
 | [],k,c,_=>rfl
 | b::l,k,c,h=>by
  rw [Yf] at h;rw [Nq,LI l (k+1) _ (by omega),Ns bs sp (by omega),Pm];rfl
theorem Nt {i:Nat}:∀(l:List Aa) (k:Nat) (b c:Aa),k<=i->l[i - k]? =some b->c.qb=b.qb->Nq bs sp i k l c=⟨c.params,Gw bs sp i l++c.ins++FD bs sp b.qb,FU b.qb⟩
 | [],k,b,c,_,h,_=>by simp at h
 | a::l,k,b,c,hk,h,hc=>by
  by_cases e:i=k
  .subst e;rw [Ybk] at h;have h:a=b:=by simpa using h
   subst h;rw [Nq,XE bs sp hc,LI bs sp l (i+1) _ (.inl (by omega)),Gw];unfold HK;dsimp only;simp only [Yj]
  have h2:l[i - (k+1)]? =some b:=by
   rw [show i - k=(i - (k+1))+1 by omega] at h;simpa using h
  rw [Nq,Ns bs sp e,Nt l (k+1) b _ (by omega) h2 (by exact hc),Gw];unfold HK;dsimp only;simp only [Yj]
end
theorem Gy (g:Ai)(sp:Int)(i:Nat):(Is g sp).qa[i]? =(g.qa[i]?).map (Ev g.qa sp i):=by
 unfold Is;dsimp only;rw [Gv,Sd]
 cases h:g.qa[i]? with
 | none=>rfl
 | some b=>
  have hi:=(Yc.1 h).1;show some (if 0<0+i/\0+i<g.qa.length then ET _ else _)=some (Ev g.qa sp i b);rw [Nt g.qa sp g.qa 0 b b (Ybg _) h rfl];unfold Ev
  by_cases h0:0<i
  .rw [if_pos ⟨by omega,by omega⟩,if_pos h0];rfl
  rw [if_neg (by omega),if_neg h0]
theorem Us (g:Ai)(sp:Int):(Is g sp).qa.length=g.qa.length:=by
 unfold Is;dsimp only;rw [Nn,Nm]
theorem Aa3 (t:BG):(FU t).to=t.to.map I7:=by
 unfold FU;split <;> rfl
theorem Se {bs:List Aa}{b:Aa}{e:Am}(h:B4 bs b e=false)(h2:1<b.qb.to.length)(hl:e.block.toNat<bs.length):EJ e.block.toNat bs<=1:=by
 unfold B4 at h;rw [K4 hl] at h;have h3:¬((b.qb.to.length:Int)<2):=by omega
 rw [decide_eq_false h3] at h;have h4:((EJ e.block.toNat bs:Nat):Int)<2:=by simpa using h
 omega
def Iu (u:Ao):Prop:=∀f∈u.fns,(Ac f).qa.length<=128
open Classical in
noncomputable def HU (u:Ao):Int:=if Cm u≠0 then Cm u else if ¬Iu u then 2 else if Cn (lvU u)≠0 then 2 else 0
theorem Aa4 {u:Ao}(h:HU u=0):Cm u=0/\Iu u/\Cn (lvU u)=0:=by
 unfold HU at h;split at h
 .rename_i h1;exact absurd h h1
 rename_i h1;split at h
 .cases h
 rename_i h2;split at h
 .cases h
 rename_i h3;exact ⟨Decidable.not_not.1 h1,Classical.not_not.1 h2,Decidable.not_not.1 h3⟩
theorem XF {u:Ao}(h:HU u≠0)(hU:Cm u=0):HU u=2:=by
 unfold HU at h ⊢;rw [if_neg (λ hn=>hn hU)] at h ⊢;split
 .rfl
 rename_i h2;rw [if_neg h2] at h;split
 .rfl
 rename_i h3;rw [if_neg h3] at h;exact absurd rfl h
theorem EU (k:Int)(v:Val)(x:Int):∀m:Cu,AN (CM m k v) x=if k=x then v else AN m x
 | []=>rfl
 | (j,a)::m=>by
  rw [CM]
  by_cases hj:j=k
  .subst hj;rw [if_pos rfl,AN,AN]
   by_cases hx:j=x
   .rw [if_pos hx,if_pos hx]
   rw [if_neg hx,if_neg hx,if_neg hx]
  rw [if_neg hj,AN,EU k v x m,AN]
  by_cases hx:j=x
  .rw [if_pos hx,if_neg (by omega),if_pos hx]
  rw [if_neg hx,if_neg hx]
def GK (m:Cu)(l:List Mv):Cu:=l.foldl (λ m x=>CM m x.1 (AN m x.2)) m
theorem K7 (m:Cu)(l:List Mv)(x:Mv):GK m (l++ [x])=CM (GK m l) x.1 (AN (GK m l) x.2):=by
 unfold GK;rw [Yav];rfl
theorem Aeq {α:Type}:∀ {l:List α} {i:Nat} {x:α},l[i]? =some x->l.Perm (x::l.eraseIdx i)
 | [],i,x,h=>by simp at h
 | a::l,0,x,h=>by
  have h:a=x:=by simpa using h
  subst h;exact .refl _
 | a::l,i+1,x,h=>by
  have h:l[i]? =some x:=by simpa using h
  exact((Aeq h).cons a).trans (.swap _ _ _)
theorem Aa5:∀ {a b:List Int},a.Nodup->(∀x∈a,x∈b)->a.length<=b.length
 | [],b,_,_=>Ybg _
 | x::a,b,hn,hs=>by
  obtain⟨h1,h2⟩:=Yy.1 hn;have hx:=hs x (Yb ..);have h3:=List.length_erase_of_mem hx;have h4:a.length<=(b.erase x).length:=Aa5 h2 λy hy=>(List.mem_erase_of_ne (λ e:y=x=>h1 (e ▸ hy))).2 (hs y (Yd _ hy));have h5:=Yaw hx;rw [Yf];omega
section
variable (sp:Int)(L:List Mv)(m:Cu)
structure Jg (left:List Mv)(M:Cu):Prop where
 src:∀x∈left,∃s,(x.1,s)∈L/\AN M x.2=AN m s
 done:∀y,y≠sp->(∀v,(y,v)∉left)->(∀s,(y,s)∈L->AN M y=AN m s)/\((∀s,(y,s)∉L)->AN M y=AN m y)
 nodup:(left.map (·.1)).Nodup
 ne:∀x∈left,x.1≠sp
variable {sp L m}
theorem Sf (hL:∀x s t,(x,s)∈L->(x,t)∈L->s=t){left:List Mv}{M:Cu}{k:Nat}{x:Mv}(h:Jg sp L m left M)(hx:left[k]? =some x)(hn:∀y∈left,y.2≠x.1):Jg sp L m (left.eraseIdx k) (CM M x.1 (AN M x.2)):=by
 have hp:=Aeq hx;have hxm:=Ya hx;have hsub:∀y∈left.eraseIdx k,y∈left:=λy hy=>hp.mem_iff.2 (Yd _ hy);have hnd:(x.1::(left.eraseIdx k).map (·.1)).Nodup:=(List.Perm.map (λ z:Mv=>z.1) hp).nodup_iff.1 h.nodup;obtain ⟨hn1,hn2⟩:=Yy.1 hnd;refine ⟨λ y hy=> ?_,λy hy hl=> ?_,hn2,λy hy=>h.ne y (hsub y hy)⟩
 .obtain ⟨s,h1,h2⟩:=h.src y (hsub y hy);exact ⟨s,h1,by rw [EU,if_neg (λ e=>hn y (hsub y hy) e.symm)];exact h2⟩
 by_cases e:x.1=y
 .obtain ⟨s,h1,h2⟩:=h.src x hxm;subst e;refine ⟨λ t ht=> ?_,λhno=>absurd h1 (hno s)⟩;rw [EU,if_pos rfl,h2,hL _ _ _ h1 ht]
 have h3:=h.done y hy λv hv=>by
  rcases Ye.1 (hp.mem_iff.1 hv) with rfl | hv
  .exact e rfl
  exact hl v hv
 rw [EU,if_neg e];exact h3
theorem XG {left:List Mv}{M:Cu}{v:Int}(h:Jg sp L m left M)(hv:v≠sp)(hs:∀y∈left,y.2≠sp):Jg sp L m (left.map (FB sp v)) (CM M sp (AN M v)):=by
 have hf:∀y:Mv,(FB sp v y).1=y.1:=λy=>by unfold FB;split <;> rfl
 have hm:(left.map (FB sp v)).map (·.1)=left.map (·.1):=by
  rw [Yaj];exact Yap λy _=>hf y
 refine⟨λ y hy=> ?_,λy hy hl=> ?_,by rw [hm];exact h.nodup,λy hy=> ?_⟩
 .obtain ⟨z,hz,rfl⟩:=Yg.1 hy;obtain ⟨s,h1,h2⟩:=h.src z hz;refine ⟨s,by rw [hf];exact h1,?_⟩;unfold FB;split
  .rename_i e;rw [EU,if_pos rfl, <- e];exact h2
  rw [EU,if_neg (λ e=>hs z hz e.symm)];exact h2
 .rw [EU,if_neg (λ e=>hy e.symm)];refine h.done y hy λw hw=> ?_;have h3:(FB sp v (y,w))∈left.map (FB sp v):=Yg.2 ⟨_,hw,rfl⟩;have h4:FB sp v (y,w)=(y,(FB sp v (y,w)).2):=Prod.ext (hf _) rfl;rw [h4] at h3;exact hl _ h3
 obtain⟨z,hz,rfl⟩:=Yg.1 hy;rw [hf];exact h.ne z hz
theorem Adk {left:List Mv}{M:Cu}(h:Jg sp L m left M)(hc:∀x∈left,left.any (λ y=>y.2==x.1)=true):∀y∈left,y.2≠sp:=λy hy e=>by
 have h1:(sp::left.map (·.1)).Nodup:=Yy.2 ⟨λ hm=>by
  obtain⟨x,hx,hxe⟩:=Yg.1 hm;exact h.ne x hx hxe,h.nodup⟩
 have h2:=Aa5 (b:=left.map (·.2)) h1 λz hz=>by
  rcases Ye.1 hz with rfl | hz
  .exact Yg.2 ⟨y,hy,e⟩
  obtain⟨x,hx,rfl⟩:=Yg.1 hz;obtain ⟨w,hw,hwe⟩:=List.any_eq_true.1 (hc x hx);exact Yg.2 ⟨w,hw,by simpa using hwe⟩
 rw [Yf,Yh,Yh] at h2;omega
theorem Aa6 (hL:∀x s t,(x,s)∈L->(x,t)∈L->s=t){left out:List Mv}(hne:left≠ [])(h:Jg sp L m left (GK m out)):Jg sp L m (DM sp (left,out)).1 (GK m (DM sp (left,out)).2)/\(DM sp (left,out)).1.length+1=left.length:=by
 have hl0:=List.length_pos_iff.2 hne;rcases GO (λ x:Mv=> !(left.any λy=>y.2==x.1)) left with ⟨h1,h2⟩ | ⟨k,x,h1,h2,h3,_⟩
 .have hc:∀x∈left,left.any (λ y=>y.2==x.1)=true:=λx hx=>by
   have:=Yao.1 h2 x hx;simpa using this
  obtain⟨x0,hx0⟩:=Ab left 0 (by omega);have hx0m:=Ya hx0;have hsp:=Adk h hc;have hb:=XG (v:=x0.1) h (h.ne x0 hx0m) hsp;have hy0:(left.map (FB sp x0.1))[0]? =some (FB sp x0.1 x0):=by rw [Yn,hx0];rfl
  have hat:LC left<0:=by unfold LC;rw [h1];decide
  rw [Nf (out:=out) hat hx0 hy0];dsimp only;rw [K7,K7];have hf1:(FB sp x0.1 x0).1=x0.1:=by unfold FB;split <;> rfl
  refine⟨Sf hL hb hy0 λy hy=> ?_,?_⟩
  .rw [hf1];obtain ⟨z,hz,rfl⟩:=Yg.1 hy;unfold FB;split
   .exact λe=>h.ne x0 hx0m e.symm
   rename_i e;exact e
  rw [List.length_eraseIdx,Yh,if_pos hl0];omega
 have hat:LC left=(k:Int):=h1;rw [Pj (out:=out) hat h2];dsimp only;rw [K7];have hk:=(Yc.1 h2).1;refine ⟨Sf hL h h2 λy hy e=> ?_,?_⟩
 .have h4:left.any (λ y=>y.2==x.1)=false:=by simpa using h3
  have:=Yao.1 h4 y hy;simp at this;exact this e
 rw [List.length_eraseIdx,if_pos hk];omega
theorem Sg (hL:∀x s t,(x,s)∈L->(x,t)∈L->s=t):∀(n:Nat) (left out:List Mv),left.length=n->Jg sp L m left (GK m out)->Jg sp L m [] (GK m (Dy sp n (left,out)).2)
 | 0,left,out,hn,h=>by
  have:left= []:=Yaq.1 hn;subst this;exact h
 | n+1,left,out,hn,h=>by
  obtain⟨h1,h2⟩:=Aa6 hL (by intro e;rw [e] at hn;simp at hn) h;rw [Dy]
  cases hs:DM sp (left,out) with
  | mk l2 o2=>
   rw [hs] at h1 h2;dsimp only at h1 h2;exact Sg hL n l2 o2 (by omega) h1
end
theorem Sh {sp:Int}:∀ {L pre:List Mv},((pre++L).map (·.1)).Nodup->(∀x∈L,0<=x.1/\0<=x.2/\x.1≠sp/\x.2≠sp)->FM sp pre L=0
 | [],pre,_,_=>rfl
 | x::L,pre,h,hx=>by
  obtain⟨h1,h2,h3,h4⟩:=hx x (Yb ..)
  have h5:(pre.any λy=>y.1==x.1)=false:=by
   rw [Yao];intro y hy e;have e:y.1=x.1:=by simpa using e
   rw [Yaa,Yah] at h;exact h.2.2 y.1 (Yg.2 ⟨y,hy,rfl⟩) x.1 (Yg.2 ⟨x,Yb ..,rfl⟩) e
  rw [FM,if_neg (by omega),if_neg (by rw [h5];decide),if_neg (λ e=>e.elim h3 h4)];exact Sh (by rw [Yj];exact h) λy hy=>hx y (Yd _ hy)
theorem Adl {sp:Int}{L:List Mv}(hn:(L.map (·.1)).Nodup)(hx:∀x∈L,0<=x.1/\0<=x.2/\x.1≠sp/\x.2≠sp)(m:Cu)(y:Int)(hy:y≠sp):
  (∀s,(y,s)∈L->AN (GK m (E8 L sp).1) y=AN m s)/\((∀s,(y,s)∉L)->AN (GK m (E8 L sp).1) y=AN m y):=by
 have hL:∀x s t,(x,s)∈L->(x,t)∈L->s=t:=λx s t h1 h2=>by
  clear hx
  induction L with
  | nil=>cases h1
  | cons a L ih=>
   rw [Yt] at hn;obtain ⟨g1,g2⟩:=Yy.1 hn;rcases Ye.1 h1 with e1 | e1
   .rcases Ye.1 h2 with e2 | e2
    .rw [<- e1] at e2;injection e2 with _ e2;exact e2.symm
    exact absurd (Yg.2 ⟨(x,t),e2,by rw [<- e1]⟩) g1
   rcases Ye.1 h2 with e2 | e2
   .exact absurd (Yg.2 ⟨(x,s),e1,by rw [<- e2]⟩) g1
   exact ih g2 e1 e2
 have hb:FM sp [] L=0:=Sh hn hx
 have hF:(E8 L sp).1=(Dy sp (FC L).length (FC L,[])).2:=by
  unfold E8;rw [if_pos hb]
 rw [hF]
 have h0:Jg sp L m (FC L) (GK m []):=by
  have hs:∀x∈FC L,x∈L:=λx hx=>(Ybd.1 hx).1;refine ⟨λ x hx=>⟨x.2,hs x hx,rfl⟩,λy hy hl=>⟨λ s hs2=> ?_,λ_=>rfl⟩,?_,λx hx2=>(hx x (hs x hx2)).2.2.1⟩
  .have e:y=s:=Classical.byContradiction λhne=>hl s (Ybd.2 ⟨hs2,by simpa using hne⟩);rw [e];rfl
  exact hn.sublist (List.filter_sublist.map _)
 exact(Sg hL _ _ _ rfl h0).done y hy λv hv=>by cases hv
theorem Po:∀ {ps:List Int} {as:List Int} {m m0:Cu},ps.Nodup->ps.length=as.length->∀y,(∀s,(y,s)∈ps.zip as->AN (Cd m ps (AG m0 as)) y=AN m0 s)/\((∀s,(y,s)∉ps.zip as)->AN (Cd m ps (AG m0 as)) y=AN m y)
 | [],[],m,m0,_,_,y=>⟨(λ s h=>by cases h),λ_=>rfl⟩
 | [],a::as,m,m0,_,h,_=>by simp at h
 | p::ps,[],m,m0,_,h,_=>by simp at h
 | p::ps,a::as,m,m0,hn,hl,y=>by
  obtain⟨g1,g2⟩:=Yy.1 hn;obtain ⟨h1,h2⟩:=Po (m:=CM m p (AN m0 a)) (m0:=m0) g2 (by simpa using hl) y;have e:Cd m (p::ps) (AG m0 (a::as))=Cd (CM m p (AN m0 a)) ps (AG m0 as):=rfl;rw [e];refine ⟨λ s hs=> ?_,λhno=> ?_⟩
  .rw [List.zip_cons_cons] at hs;rcases Ye.1 hs with hs | hs
   .injection hs with e1 e2;subst e1 e2;rw [h2 λt ht=>g1 (List.of_mem_zip ht).1,EU,if_pos rfl]
   exact h1 s hs
  rw [List.zip_cons_cons] at hno;rw [h2 λs hs=>hno s (Yd _ hs),EU,if_neg];intro e;exact hno a (by rw [e];exact Yb ..)
def AgU (r:Int->Int)(t:BG):BG:= { t with to:=t.to.map λe=>⟨r e.block,e.args⟩ }
structure Ren (u v:Ao)(ρ:Int->Int->Int)(good:Int->Int->Prop):Prop where
 main:v.main=u.main
 entry:∀k,AT v k=AT u k
 zero:∀fn,good fn 0/\ρ fn 0=0
 blk:∀fn k,good fn k->(Aw v fn (ρ fn k)).params=(Aw u fn k).params/\(Aw v fn (ρ fn k)).ins=(Aw u fn k).ins/\(Aw v fn (ρ fn k)).qb=AgU (ρ fn) (Aw u fn k).qb/\∀e∈(Aw u fn k).qb.to,good fn e.block
def wst (s:List Ar)(M:AE):AE:= { M with stack:=s }
theorem Afa (n:Int)(M:AE)(s:List Ar):Bw n (wst s M)=wst s (Bw n M):=by
 unfold Bw;show (if M.left<n then _ else _)=_;split <;> rfl
theorem Aa7 (a b:Val)(M:AE)(s:List Ar):A7 a b (wst s M)=(wst s (A7 a b M).1,(A7 a b M).2):=by
 unfold A7;rw [Afa]
 by_cases h1:a.kind≠0
 .rw [if_pos h1,if_pos h1]
 rw [if_neg h1,if_neg h1]
 by_cases h2:a.n<0\/1024<a.n
 .rw [if_pos h2,if_pos h2]
 rw [if_neg h2,if_neg h2];show (if (Bw a.n M).short=true then _ else _)=_
 by_cases h3:(Bw a.n M).short=true
 .rw [if_pos h3,if_pos h3]
 rw [if_neg h3,if_neg h3];rfl
theorem XH (i:AQ)(args:List Val)(M:AE)(s:List Ar):AY i args (wst s M)=(wst s (AY i args M).1,(AY i args M).2):=by
 unfold AY;rw [Aa7];show (if i.op=15 then if (Ah args 0).kind≠0 then _ else if (M.out.length:Int)=1000 then _ else _ else if i.op=16 then _ else if i.op=18 then if HY 0 args=false then _ else if _ then _ else _ else if _ then _ else if i.op=17 then _ else if (Ah args 1).n<0\/((Fy M (Ah args 0)).length:Int)<=(Ah args 1).n then _ else if i.op=19 then _ else _)=_
 by_cases h1:i.op=15
 .rw [if_pos h1,if_pos h1]
  by_cases h2:(Ah args 0).kind≠0
  .rw [if_pos h2,if_pos h2]
  rw [if_neg h2,if_neg h2]
  by_cases h3:(M.out.length:Int)=1000
  .rw [if_pos h3,if_pos h3]
  rw [if_neg h3,if_neg h3];rfl
 rw [if_neg h1,if_neg h1]
 by_cases h2:i.op=16
 .rw [if_pos h2,if_pos h2]
 rw [if_neg h2,if_neg h2]
 by_cases h3:i.op=18
 .rw [if_pos h3,if_pos h3]
  by_cases h4:HY 0 args=false
  .rw [if_pos h4,if_pos h4]
  rw [if_neg h4,if_neg h4]
  by_cases h5:(Ah args 0).n<0\/(Ah args 1).n<=(Ah args 0).n
  .rw [if_pos h5,if_pos h5]
  rw [if_neg h5,if_neg h5]
 rw [if_neg h3,if_neg h3]
 by_cases h4:(Ah args 0).kind≠3\/i.op≠17/\(Ah args 1).kind≠0
 .rw [if_pos h4,if_pos h4]
 rw [if_neg h4,if_neg h4]
 by_cases h5:i.op=17
 .rw [if_pos h5,if_pos h5];rfl
 rw [if_neg h5,if_neg h5]
 by_cases h6:(Ah args 1).n<0\/((Fy M (Ah args 0)).length:Int)<=(Ah args 1).n
 .rw [if_pos h6,if_pos h6]
 rw [if_neg h6,if_neg h6]
 by_cases h7:i.op=19
 .rw [if_pos h7,if_pos h7];rfl
 rw [if_neg h7,if_neg h7]
 have:∀l,C1 (wst s M) (Ah args 0) l=wst s (C1 M (Ah args 0) l):=λl=>by
  unfold C1
  cases (Ah args 0).arr <;> rfl
 rw [this];rfl
theorem Mb (i:AQ)(args:List Val)(M:AE)(s:List Ar):AZ i args (wst s M)=(wst s (AZ i args M).1,(AZ i args M).2):=by
 unfold AZ;rw [XH]
 by_cases h1:i.op=0
 .rw [if_pos h1,if_pos h1]
 rw [if_neg h1,if_neg h1]
 by_cases h2:Bh i.op [1,2,3,4,5,6,7]=true
 .rw [if_pos h2,if_pos h2]
  by_cases h3:HY 0 args=false
  .rw [if_pos h3,if_pos h3]
  rw [if_neg h3,if_neg h3]
 rw [if_neg h2,if_neg h2]
 by_cases h3:i.op=8
 .rw [if_pos h3,if_pos h3]
 rw [if_neg h3,if_neg h3]
 by_cases h4:i.op=9
 .rw [if_pos h4,if_pos h4]
 rw [if_neg h4,if_neg h4]
 by_cases h5:Bh i.op [10,11,12,21]=true
 .rw [if_pos h5,if_pos h5]
 rw [if_neg h5,if_neg h5]
 by_cases h6:Bh i.op [22,23,24]=true
 .rw [if_pos h6,if_pos h6]
 rw [if_neg h6,if_neg h6]
 by_cases h7:i.op=100
 .rw [if_pos h7,if_pos h7]
 rw [if_neg h7,if_neg h7]
section
variable {u v:Ao}{ρ:Int->Int->Int}{good:Int->Int->Prop}(h:Ren u v ρ good)
end
def Az (u:Ao):Ao:=⟨u.fns.map Ac,u.main⟩
theorem K8 {u:Ao}(h:Cm u=0):∀f∈u.fns,Bu f=0:=by
 unfold Cm at h;split at h
 .cases h
 split at h
 .cases h
 split at h
 .cases h
 split at h
 .rename_i hn;exact absurd h hn
 rename_i hn;exact C4 (Decidable.not_not.1 hn)
theorem Gz {α:Type}{f:α->Int}:∀ {l:List α},(∀x∈l,f x=0)->Ax f l=0
 | [],_=>rfl
 | x::l,h=>by
  rw [Ax,if_neg (λ hn=>hn (h x (Yb ..)))];exact Gz λy hy=>h y (Yd _ hy)
theorem Qw {f:Ai}{v:Int}(h0:0<=v)(h:v<f.qa.length):AI (Ac f).qa v=AI f.qa v:=by
 obtain⟨b,hb⟩:=Ab f.qa v.toNat (by omega);obtain ⟨to,g1,_⟩:=(FA f).old _ b hb;rw [Br g1,Br hb];rfl
theorem HL (u:Ao)(k:Int):(Az u).fns[k.toNat]? =(u.fns[k.toNat]?).map Ac:=Yn ..
theorem F7 {u:Ao}(hf:∀f∈u.fns,Bu f=0)(k:Int):AT (Az u) k=AT u k:=by
 unfold AT;rw [HL]
 cases h:u.fns[k.toNat]? with
 | none=>rfl
 | some f=>exact Qw (Ybo _) (by have:=(Bf (hf f (Ya h))).pos;omega)
theorem Nu {u:Ao}(h:Cm u=0)(hl:∀f∈u.fns,(Ac f).qa.length<=128):Cm (Az u)=0:=by
 have hf:=K8 h;have hl1:(Az u).fns.length=u.fns.length:=Yh ..
 have hc:∀i,CG (Az u) i=CG u i:=λi=>by
  unfold CG;rw [hl1,F7 hf]
 have hcalls:G4 u=0->G4 (Az u)=0:=λhcu=>by
  refine Gz λg hg=> ?_;obtain ⟨f,hfm,rfl⟩:=Yg.1 hg;have h1:=C4 hcu f hfm;have hs:=FA f;refine Gz λc hcm=> ?_;obtain ⟨i,hi⟩:=Yk hcm;have hil:=(Yc.1 hi).1
  by_cases hin:i<f.qa.length
  .obtain ⟨b,hb⟩:=Ab f.qa i (by omega);obtain ⟨to,g1,_⟩:=hs.old i b hb;rw [hi] at g1;injection g1 with g1;subst g1;have h2:=C4 h1 b (Ya hb);exact Gz λx hx=>(hc x).trans (C4 h2 x hx)
  obtain⟨⟨k,e⟩,hx⟩:=Ab (Cl f).2 (i - f.qa.length) (by have:=hs.len;omega);have g1:=(hs.new _ k e hx).1;rw [show f.qa.length+(i - f.qa.length)=i by omega,hi] at g1;injection g1 with g1;subst g1;rfl
 have hfn:Ax Bu (Az u).fns=0:=Gz λg hg=>by
  obtain⟨f,hfm,rfl⟩:=Yg.1 hg;exact DA (hf f hfm) (hl f hfm)
 have hm:(Az u).main=u.main:=rfl;unfold Cm at h ⊢;rw [hl1,hm,hfn,F7 hf];split at h
 .cases h
 rename_i g1;rw [if_neg g1];split at h
 .cases h
 rename_i g2;rw [if_neg g2];split at h
 .cases h
 rename_i g3;rw [if_neg g3,if_neg (λ e=>e rfl)];split at h
 .rename_i hn;exact absurd h hn
 split at h
 .cases h
 rename_i g5;rw [if_neg g5];exact hcalls h
section
variable {u:Ao}(hu:Cm u=0)
include hu
theorem XI (f:Ar)(i:AQ)(fs:List Ar)(M:AE):D4 (Az u) f i fs M=D4 u f i fs M:=by
 have he:=F7 (K8 hu)
 have hen:∀n args to,Dv (Az u) n args to M=Dv u n args to M:=λn args to=>by
  unfold Dv Bk;rw [he]
 unfold D4;dsimp only;rw [hen,hen,he]
theorem Ki {f:Ar}{F:Ai}{b:Aa}{e:Am}(hF:u.fns[f.fn.toNat]? =some F)(hb:b∈F.qa)(he:e∈b.qb.to):AM (Az u) f e=AM u f e:=by
 have hok:=Bf (K8 hu F (Ya hF));have hE:=hok.edges b hb e he;obtain ⟨c,hc⟩:=Ab F.qa e.block.toNat (by omega);obtain ⟨to,g1,_⟩:=(FA F).old _ c hc;unfold AM Aw;rw [HL,hF];show ({ f with block:=e.block,at_:=0,qc:=Cd f.qc (((Ac F).qa[e.block.toNat]?).getD default).params (AG f.qc e.args) }:Ar)= { f with block:=e.block,at_:=0,qc:=Cd f.qc ((F.qa[e.block.toNat]?).getD default).params (AG f.qc e.args) };rw [g1,hc];rfl
omit hu in
def Qx (v:Ao)(M X Y:AE):Prop:=X=Y\/∃S',X=wst S' M/\Y.left=M.left/\Y.short=M.short/\Y.over=M.over/\(∀c,As v (AO c (wst S' M))=AO c Y)/\∃g gs,S'=g::gs/\(Aw v g.fn g.block).params= []
theorem Ut {M:AE}(hM:MOk u M):Qx (Az u) M (As (Az u) M) (As u M):=by
 cases hst:M.stack with
 | nil=>
  refine .inl ?_;unfold As;rw [hst]
 | cons f fs=>
  obtain⟨_,hb0,⟨F,b,hF,hb,_,_⟩,_⟩:=hM.frames f (by rw [hst];exact Yb ..);have h0:=K8 hu F (Ya hF);have hok:=Bf h0;have hs:=FA F;obtain ⟨to,g1,g2,g3⟩:=hs.old _ b hb
  have eb:Aw u f.fn f.block=b:=by
   unfold Aw;rw [hF];show (F.qa[f.block.toNat]?).getD default=b;rw [hb];rfl
  have ec:Aw (Az u) f.fn f.block=Ce b to:=by
   unfold Aw;rw [HL,hF];show ((Ac F).qa[f.block.toNat]?).getD default=Ce b to;rw [g1];rfl
  have hT:FO F b.qb:=((GX hu).u).qb F (Ya hF) b (Ya hb);unfold As;rw [hst];dsimp only;rw [eb,ec];show Qx (Az u) M (if f.at_=(b.ins.length:Int) then Bx (Az u) f (Ce b to).qb fs M else D4 (Az u) { f with at_:=f.at_+1 } (b.ins[f.at_.toNat]?.getD default) fs { M with stack:= { f with at_:=f.at_+1 }::fs }) _
  by_cases h1:f.at_=(b.ins.length:Int)
  .rw [if_pos h1,if_pos h1]
   -- the edges
   have key:∀k:Nat,k<b.qb.to.length->({ M with stack:=AM (Az u) f (BO (Ce b to).qb k)::fs }:AE)= { M with stack:=AM u f (BO b.qb k)::fs }\/∃S',({ M with stack:=AM (Az u) f (BO (Ce b to).qb k)::fs }:AE)=wst S' M/\(∀c,As (Az u) (AO c (wst S' M))=AO c { M with stack:=AM u f (BO b.qb k)::fs })/\∃g gs,S'=g::gs/\(Aw (Az u) g.fn g.block).params= []:=λk hk=>by
    obtain⟨e,he⟩:=Ab b.qb.to k (by omega);have e1:BO b.qb k=e:=by unfold BO;rw [he];rfl
    have hfl:=Ki hu hF (Ya hb) (Ya he);rcases g3 k e he with g | ⟨m,g4,g5⟩
    .have e2:BO (Ce b to).qb k=e:=by
      show(to[k]?).getD default=e;rw [g];rfl
     rw [e1,e2,hfl];exact .inl rfl
    have e2:BO (Ce b to).qb k=⟨((F.qa.length+m:Nat):Int),[]⟩:=by
     show(to[k]?).getD default=_;rw [g5];rfl
    have hn:=(hs.new m _ e g4).1
    have ej:Aw (Az u) f.fn ((F.qa.length+m:Nat):Int)=GS e:=by
     unfold Aw;rw [HL,hF];show ((Ac F).qa[(((F.qa.length+m:Nat):Int)).toNat]?).getD default=_;rw [Ybp,hn];rfl
    have e3:AM (Az u) f ⟨((F.qa.length+m:Nat):Int),[]⟩= { f with block:=((F.qa.length+m:Nat):Int),at_:=0 }:=by
     unfold AM;dsimp only;rw [ej];rfl
    rw [e1,e2,e3];refine .inr ⟨_,rfl,λc=> ?_,_,_,rfl,by show(Aw (Az u) f.fn ((F.qa.length+m:Nat):Int)).params= [];rw [ej];rfl⟩;unfold As;show (if (0:Int)=((Aw (Az u) f.fn ((F.qa.length+m:Nat):Int)).ins.length:Int) then Bx (Az u) { f with block:=((F.qa.length+m:Nat):Int),at_:=0 } (Aw (Az u) f.fn ((F.qa.length+m:Nat):Int)).qb fs (AO c (wst ({ f with block:=((F.qa.length+m:Nat):Int),at_:=0 }::fs) M)) else _)=_;rw [ej,if_pos (show (0:Int)=((GS e).ins.length:Int) from rfl)]
    have e4:AM (Az u) { f with block:=((F.qa.length+m:Nat):Int),at_:=0 } e=AM u f e:=by
     have h5:=Ki hu (f:= { f with block:=((F.qa.length+m:Nat):Int),at_:=0 }) hF (Ya hb) (Ya he);rw [h5];rfl
    show Bx (Az u) { f with block:=((F.qa.length+m:Nat):Int),at_:=0 } ⟨1,0,0,[],[e]⟩ fs _=_;unfold Bx;rw [if_neg (show ¬(1:Int)=4 by decide),if_pos rfl];show ({ AO c (wst _ M) with stack:=AM (Az u) { f with block:=((F.qa.length+m:Nat):Int),at_:=0 } e::fs }:AE)=_;rw [e4];rfl
   unfold Bx;show Qx (Az u) M (if b.qb.kind=4 then DU b.qb.n 0 M else if b.qb.kind=1 then { M with stack:=AM (Az u) f (BO (Ce b to).qb 0)::fs } else if b.qb.kind=0 then FJ f (AN f.qc b.qb.arg) fs M else if (AN f.qc b.qb.arg).kind≠0 then DU 5 0 M else { M with stack:=AM (Az u) f (BO (Ce b to).qb (DK b.qb (AN f.qc b.qb.arg).n).toNat)::fs }) _
   by_cases k4:b.qb.kind=4
   .rw [if_pos k4,if_pos k4];exact .inl rfl
   rw [if_neg k4,if_neg k4]
   by_cases k1:b.qb.kind=1
   .rw [if_pos k1,if_pos k1];rcases key 0 (hT.one k1) with h2 | ⟨S',h2,h3⟩
    .exact .inl h2
    exact .inr ⟨S',h2,rfl,rfl,rfl,h3⟩
   rw [if_neg k1,if_neg k1]
   by_cases k0:b.qb.kind=0
   .rw [if_pos k0,if_pos k0];exact .inl rfl
   rw [if_neg k0,if_neg k0]
   by_cases kw:(AN f.qc b.qb.arg).kind≠0
   .rw [if_pos kw,if_pos kw];exact .inl rfl
   rw [if_neg kw,if_neg kw];have hch:=Fc hT (AN f.qc b.qb.arg).n k0 k1 k4;rcases key (DK b.qb (AN f.qc b.qb.arg).n).toNat (by omega) with h2 | ⟨S',h2,h3⟩
   .exact .inl h2
   exact .inr ⟨S',h2,rfl,rfl,rfl,h3⟩
  rw [if_neg h1,if_neg h1];exact .inl (XI hu ..)
end
structure Adm (bs:List Aa)(many:Nat):Prop where
 to:∀b∈bs,∀i∈b.ins,0<=i.to/\i.to<many
 args:∀b∈bs,∀i∈b.ins,∀a∈i.args,0<=a/\a<many
 arg:∀b∈bs,b.qb.kind≠1/\b.qb.kind≠4->0<=b.qb.arg/\b.qb.arg<many
 eargs:∀b∈bs,∀e∈b.qb.to,∀a∈e.args,0<=a/\a<many
 edge:∀b∈bs,∀e∈b.qb.to,1<=e.block/\e.block<bs.length
theorem Nv {f:Ai}(h:CA f){k:Nat}{at_ a:Int}(hf:CP (Bv f.qa 0 f.qa []).2 (B8 f.qa) k at_ a=true):a∈Df f.qa:=by
 rw [h.defs.1] at hf;unfold CP at hf
 cases hd:Cc (Bg 0 f.qa) a with
 | none=>rw [hd] at hf;cases hf
 | some p=>
  have hmem:=R3 hd;have:a∈FH (Bg 0 f.qa):=Yg.2 ⟨_,hmem,rfl⟩
  rwa [GW] at this
theorem Sj {t:BG}{use:Int->Bool}(h:Fx t use=true):(t.kind≠1/\t.kind≠4->use t.arg=true)/\∀e∈t.to,∀a∈e.args,use a=true:=by
 unfold Fx at h;split at h
 .cases h
 rename_i hc;refine ⟨λ hk=> ?_,λe he a ha=> ?_⟩
 .cases hu:use t.arg with
  | true=>rfl
  | false=>exact absurd ⟨hk,hu⟩ hc
 rw [Ys] at h;have:=h e he;rw [Ys] at this;exact this a ha
theorem Aa8 {f:Ai}(h:CA f){many:Nat}(hm:Ay f.qa<=many):Adm f.qa many:=by
 have key:∀a∈Df f.qa,0<=a/\a<many:=λa ha=>by
  have h1:=GT h a ha;have h2:=(R4 h).2.2 a ha;exact ⟨h1.1,by omega⟩
 have hu:=Pk h.uses;refine ⟨λ b hb i hi=>key _ (List.mem_flatMap.2 ⟨b,hb,Yan _ (Yg.2 ⟨i,hi,rfl⟩)⟩),λb hb i hi a ha=> ?_,λb hb hk=> ?_,λb hb e he a ha=> ?_,h.edges⟩
 .obtain ⟨k,hk⟩:=Yk hb;obtain ⟨j,hj⟩:=Yk hi;exact key a (Nv h (LD (hu k b hk).1 j i hj a ha))
 .obtain ⟨k,hkb⟩:=Yk hb;exact key _ (Nv h ((Sj (hu k b hkb).2).1 hk))
 obtain⟨k,hk⟩:=Yk hb;exact key a (Nv h ((Sj (hu k b hk).2).2 e he a ha))
def Kj (i:Nat):List Aa->Nat
 | []=>0
 | b::l=>(if b.qb.to.length=1 then 0 else HZ i b.qb.to)+Kj i l
theorem IW (bs:List Aa)(sp:Int){i:Nat}:∀ {l:List Am},HZ i l=0->I8 bs sp i l= []
 | [],_=>rfl
 | e::l,h=>by
  rw [Dl] at h;split at h
  .omega
  rename_i hn;rw [I8,IW bs sp (by omega),if_neg (λ e=>hn e.symm)];rfl
theorem Iv {i:Nat}:∀ {l:List Am} {e:Am},e∈l->e.block.toNat=i->1<=HZ i l
 | [],e,h,_=>by cases h
 | a::l,e,h,he=>by
  rw [Dl];rcases Ye.1 h with rfl | h
  .rw [if_pos he];omega
  have:=Iv h he;omega
theorem Sk (bs:List Aa)(sp:Int){i:Nat}:∀ {l:List Am} {e:Am},HZ i l=1->e∈l->e.block.toNat=i->I8 bs sp i l=AU bs e sp
 | [],e,_,h,_=>by cases h
 | a::l,e,hc,h,he=>by
  rw [Dl] at hc;rw [I8];rcases Ye.1 h with rfl | h
  .rw [if_pos he] at hc;rw [IW bs sp (by omega),if_pos he.symm];rfl
  have h1:=Iv h he;have hn:¬a.block.toNat=i:=λhn=>by rw [if_pos hn] at hc;omega
  rw [if_neg hn] at hc;rw [Sk bs sp hc h he,if_neg (λ e=>hn e.symm),Yo]
theorem IX (bs:List Aa)(sp:Int){i:Nat}:∀ {l:List Aa},Kj i l=0->Gw bs sp i l= []
 | [],_=>rfl
 | b::l,h=>by
  rw [Kj] at h;rw [Gw,IX bs sp (by omega)];split
  .rfl
  rename_i h1;rw [if_neg h1] at h;rw [IW bs sp (by omega)];rfl
theorem Kk {i:Nat}:∀ {l:List Aa} {b:Aa} {e:Am},b∈l->b.qb.to.length≠1->e∈b.qb.to->e.block.toNat=i->1<=Kj i l
 | [],b,e,h,_,_,_=>by cases h
 | a::l,b,e,h,h1,he,hi=>by
  rw [Kj];rcases Ye.1 h with rfl | h
  .rw [if_neg h1];have:=Iv he hi;omega
  have:=Kk h h1 he hi;omega
theorem Sl (bs:List Aa)(sp:Int){i:Nat}:∀ {l:List Aa} {b:Aa} {e:Am},Kj i l=1->b∈l->b.qb.to.length≠1->e∈b.qb.to->e.block.toNat=i->Gw bs sp i l=AU bs e sp
 | [],b,e,_,h,_,_,_=>by cases h
 | a::l,b,e,hc,h,h1,he,hi=>by
  rw [Kj] at hc;rw [Gw];rcases Ye.1 h with rfl | h
  .rw [if_neg h1] at hc;have h2:=Iv he hi;rw [IX bs sp (by omega),if_neg h1,Sk bs sp (by omega) he hi];rfl
  have h2:=Kk h h1 he hi;rw [Sl bs sp (by omega) h h1 he hi];split
  .rw [Yo]
  rename_i ha;rw [if_neg ha] at hc;rw [IW bs sp (by omega),Yo]
theorem Qy {i:Nat}:∀l:List Aa,Kj i l<=EJ i l
 | []=>Ybh _
 | b::l=>by
  have:=Qy (i:=i) l;rw [Kj,EJ];split <;> omega
theorem Sm {i:Nat}:∀ {l:List Aa} {b:Aa} {e:Am},b∈l->b.qb.to= [e]->e.block.toNat=i->Kj i l+1<=EJ i l
 | [],b,e,h,_,_=>by cases h
 | a::l,b,e,h,h1,hi=>by
  rw [Kj,EJ];rcases Ye.1 h with rfl | h
  .have h2:=Qy (i:=i) l;have h3:1<=HZ i b.qb.to:=Iv (by rw [h1];exact Yl.2 rfl) hi;rw [if_pos (by rw [h1];rfl)];omega
  have:=Sm h h1 hi;split <;> omega
theorem Nw {i:Nat}:∀ {l:List Aa},1<=Kj i l->∃b∈l,b.qb.to.length≠1/\∃e∈b.qb.to,e.block.toNat=i
 | [],h=>by cases h
 | b::l,h=>by
  rw [Kj] at h
  by_cases h2:1<=Kj i l
  .obtain ⟨c,hc,h3⟩:=Nw h2;exact ⟨c,Yd _ hc,h3⟩
  by_cases h1:b.qb.to.length=1
  .rw [if_pos h1] at h;omega
  rw [if_neg h1] at h;have h3:0<HZ i b.qb.to:=by omega
  unfold HZ at h3;obtain ⟨e,he,hei⟩:=List.countP_pos_iff.1 h3;exact ⟨b,Yb ..,h1,e,he,by simpa using hei⟩
section
variable {f:Ai}(h0:Bu f=0)(hl:(Ac f).qa.length<=128)
include h0 hl
theorem XJ {b:Aa}{e:Am}(sp:Int)(hb:b∈(Ac f).qa)(h1:b.qb.to.length≠1)(he:e∈b.qb.to):Gw (Ac f).qa sp e.block.toNat (Ac f).qa=AU (Ac f).qa e sp:=by
 have gok:=Bf (DA h0 hl);have hE:=gok.edges b hb e he;have h2:=Yaw he;have h3:=Se (Na h0 hl b hb e he) (by omega) (by omega);have h4:=Kk hb h1 he rfl;have h5:=Qy (i:=e.block.toNat) (Ac f).qa;exact Sl _ sp (by omega) hb h1 he rfl
theorem Uu {b:Aa}{e:Am}(sp:Int)(hb:b∈(Ac f).qa)(h1:b.qb.to= [e]):Gw (Ac f).qa sp e.block.toNat (Ac f).qa= []:=by
 have gok:=Bf (DA h0 hl);have h2:=Sm hb h1 (rfl:e.block.toNat=e.block.toNat);refine IX _ sp (Classical.byContradiction λhn=> ?_);obtain ⟨c,hc,h3,x,hx,hxe⟩:=Nw (i:=e.block.toNat) (l:=(Ac f).qa) (by omega);have hE:=gok.edges c hc x hx;have h4:=Yaw hx;have h5:=Se (Na h0 hl c hc x hx) (by omega) (by omega);rw [hxe] at h5;have h6:=Kk hc h3 hx hxe;omega
theorem Aa9 (sp:Int):Gw (Ac f).qa sp 0 (Ac f).qa= []:=by
 have gok:=Bf (DA h0 hl);refine IX _ sp (Classical.byContradiction λhn=> ?_);obtain ⟨c,hc,h3,x,hx,hxe⟩:=Nw (i:=0) (l:=(Ac f).qa) (by omega);have hE:=gok.edges c hc x hx;omega
theorem Nx:(∀b∈(Ac f).qa,∀i∈b.ins,∀a∈i.args,a≠Ay f.qa)/\(∀b∈(Ac f).qa,b.qb.kind≠1/\b.qb.kind≠4->b.qb.arg≠Ay f.qa)/\
  (∀b∈(Ac f).qa,∀e∈b.qb.to,∀a∈e.args,0<=a/\a≠Ay f.qa)/\∀b∈(Ac f).qa,∀v∈b.params,0<=v/\v≠Ay f.qa:=by
 have hok:=Bf h0;obtain ⟨f1,f2,f3⟩:=R4 hok;have hr:=Aa8 hok (many:=(Ay f.qa).toNat) (by omega);have hs:=FA f
 have key:∀c∈(Ac f).qa,(∃b∈f.qa,∃to:List Am,c=Ce b to/\∀x∈to,x.args= []\/x∈b.qb.to)\/∃e,(∃b∈f.qa,e∈b.qb.to)/\c=GS e:=λc hc=>by
  obtain⟨i,hi⟩:=Yk hc;have hil:=(Yc.1 hi).1
  by_cases hin:i<f.qa.length
  .obtain ⟨b,hb⟩:=Ab f.qa i (by omega);obtain ⟨to,g1,g2,g3⟩:=hs.old i b hb;rw [hi] at g1;injection g1 with g1;refine .inl ⟨b,Ya hb,to,g1,λx hx=> ?_⟩;obtain ⟨j,hj⟩:=Yk hx;have hjl:=(Yc.1 hj).1;obtain ⟨e,he⟩:=Ab b.qb.to j (by omega);rcases g3 j e he with g | ⟨m,g4,g5⟩
   .rw [hj] at g;injection g with g;subst g;exact .inr (Ya he)
   rw [hj] at g5;injection g5 with g5;subst g5;exact .inl rfl
  obtain⟨⟨k,e⟩,hx⟩:=Ab (Cl f).2 (i - f.qa.length) (by have:=hs.len;omega);obtain ⟨g1,b,hb,hm⟩:=hs.new _ k e hx;rw [show f.qa.length+(i - f.qa.length)=i by omega,hi] at g1;injection g1 with g1;exact .inr ⟨e,⟨b,Ya hb,hm⟩,g1⟩
 refine⟨λ c hc i hi a ha=> ?_,λc hc hk=> ?_,λc hc x hx a ha=> ?_,λc hc v hv=> ?_⟩
 .rcases key c hc with ⟨b,hb,to,rfl,_⟩ | ⟨e,_,rfl⟩
  .have:=hr.args b hb i hi a ha;omega
  cases hi
 .rcases key c hc with ⟨b,hb,to,rfl,_⟩ | ⟨e,_,rfl⟩
  .have:=hr.arg b hb hk;show b.qb.arg≠_;omega
  exact absurd rfl hk.1
 .rcases key c hc with ⟨b,hb,to,rfl,h⟩ | ⟨e,⟨b,hb,he⟩,rfl⟩
  .rcases h x hx with h | h
   .rw [h] at ha;cases ha
   have:=hr.eargs b hb x h a ha;omega
  have hx:x=e:=Yl.1 hx;subst hx;have:=hr.eargs b hb x he a ha;omega
 rcases key c hc with ⟨b,hb,to,rfl,_⟩ | ⟨e,_,rfl⟩
 .have hm:v∈Df f.qa:=List.mem_flatMap.2 ⟨b,hb,Yag _ hv⟩;have h1:=GT hok v hm;have h2:=f3 v hm;omega
 cases hv
theorem Sn {b c:Aa}{e:Am}(hb:b∈(Ac f).qa)(he:e∈b.qb.to)(hc:(Ac f).qa[e.block.toNat]? =some c){m m':Cu}(ha:∀x,x≠Ay f.qa->AN m' x=AN m x):
  ∀x,x≠Ay f.qa->AN (GK m' (E8 (DN (Ac f).qa e) (Ay f.qa)).1) x=AN (Cd m c.params (AG m e.args)) x:=λx hx=>by
 have gok:=Bf (DA h0 hl);have hcm:=Ya hc;obtain ⟨_,_,a3,a4⟩:=Nx h0 hl;have hE:=((CN ((DY.1 (DA h0 hl)).block b hb).2).edges e he).2.2;rw [Br hc] at hE;have hnd:=(gok.block_params hcm).1;have hmv:DN (Ac f).qa e=c.params.zip e.args:=by unfold DN;rw [Br hc]
 rw [hmv];have hfst:(c.params.zip e.args).map (·.1)=c.params:=List.map_fst_zip (by omega)
 have hall:∀y∈c.params.zip e.args,0<=y.1/\0<=y.2/\y.1≠Ay f.qa/\y.2≠Ay f.qa:=λy hy=>by
  obtain⟨p,a⟩:=y;obtain ⟨h1,h2⟩:=List.of_mem_zip hy;have h3:=a4 c hcm p h1;have h4:=a3 b hb e he a h2;exact ⟨h3.1,h4.1,h3.2,h4.2⟩
 obtain⟨s1,s2⟩:=Adl (L:=c.params.zip e.args) (by rw [hfst];exact hnd) hall m' x hx;obtain ⟨t1,t2⟩:=Po (m:=m) (m0:=m) hnd hE.symm x
 by_cases hex:∃s,(x,s)∈c.params.zip e.args
 .obtain ⟨s,hs⟩:=hex;rw [s1 s hs,t1 s hs,ha s (hall _ hs).2.2.2]
 have hno:∀s,(x,s)∉c.params.zip e.args:=λs hs=>hex ⟨s,hs⟩;rw [s2 hno,t2 hno,ha x hx]
end
def gU (u:Ao)(fn:Int):Ai:=u.fns[fn.toNat]?.getD default
def spU (u:Ao)(fn:Int):Int:=Ay (gU u fn).qa
def Ol (u:Ao)(fn k:Int):List AQ:=Gw (Ac (gU u fn)).qa (spU u fn) k.toNat (Ac (gU u fn)).qa
def AgL (q:Int)(m m':Cu):Prop:=∀x,x≠q->AN m' x=AN m x
theorem AgL.put {q:Int}{m m':Cu}(h:AgL q m m')(k:Int)(v:Val):AgL q (CM m k v) (CM m' k v):=λx hx=>by
 rw [EU,EU,h x hx]
theorem AgL.take {q:Int}{m m':Cu}(h:AgL q m m'){l:List Int}(hl:∀a∈l,a≠q):AG m' l=AG m l:=Yap λa ha=>h a (hl a ha)
structure FL (u:Ao)(f f':Ar):Prop where
 fn:f'.fn=f.fn
 block:f'.block=f.block
 to:f'.to=f.to
 at_:f'.at_=f.at_+((Ol u f.fn f.block).length:Nat)
 qc:AgL (spU u f.fn) f.qc f'.qc
inductive SL (u:Ao):List Ar->List Ar->Prop where
 | nil:SL u [] []
 | cons {f f':Ar} {fs fs':List Ar}:FL u f f'->SL u fs fs'->SL u (f::fs) (f'::fs')
theorem VU (u:Ao)(k:Nat):(lvU u).fns[k]? =(u.fns[k]?).map lvF:=Yn ..
theorem Kl (u:Ao)(k:Nat):(Az u).fns[k]? =(u.fns[k]?).map Ac:=Yn ..
theorem Uv {u:Ao}{fn:Int}{F:Ai}(h:u.fns[fn.toNat]? =some F):gU u fn=F:=by unfold gU;rw [h];rfl
theorem Aba {u:Ao}{fn k:Int}{F:Ai}(hF:u.fns[fn.toNat]? =some F):Aw (Az u) fn k=((Ac F).qa[k.toNat]?).getD default:=by
 unfold Aw;rw [Kl,hF];rfl
theorem Abb {u:Ao}{fn k:Int}{F:Ai}{b:Aa}(hF:u.fns[fn.toNat]? =some F)(hb:(Ac F).qa[k.toNat]? =some b):Aw (lvU u) fn k=Ev (Ac F).qa (Ay F.qa) k.toNat b:=by
 unfold Aw;rw [VU,hF];show (((Is (Ac F) (Ay F.qa)).qa)[k.toNat]?).getD default=_;rw [Gy,hb];rfl
theorem VV (u:Ao)(n:Int):AT (lvU u) n=AT (Az u) n:=by
 unfold AT;rw [VU,Kl]
 cases u.fns[n.toNat]? with
 | none=>rfl
 | some F=>
  show AI (Is (Ac F) (Ay F.qa)).qa 0=AI (Ac F).qa 0;unfold AI;rw [Gy]
  cases (Ac F).qa[(0:Int).toNat]? with
  | none=>rfl
  | some b=>rfl
theorem Pp (u:Ao)(n:Int)(args:List Val)(to:Int):Bk (lvU u) n args to=Bk (Az u) n args to:=by
 unfold Bk;rw [VV]
theorem Km:∀ {l:List Aa} {b:Aa},b∈l->b.ins.length<=CW l
 | [],b,h=>by cases h
 | c::l,b,h=>by
  rw [CW];rcases Ye.1 h with rfl | h
  .omega
  have:=Km h;omega
theorem So {c:Nat}:∀ {l:List Aa},(∀b∈l,b.ins.length<=c)->CW l<=l.length*c
 | [],_=>Ybg _
 | b::l,h=>by
  have h1:=h b (Yb ..);have h2:=So λx hx=>h x (Yd _ hx);rw [CW,Yf,Ybm];omega
theorem Sp {bs:List Aa}{sp:Int}{i:Nat}(hp:∀e:Am,(AU bs e sp).length<=8192):∀l:List Am,(I8 bs sp i l).length<=l.length*8192
 | []=>by simp [I8]
 | e::l=>by
  have h1:=Sp (i:=i) hp l;have h2:=hp e;rw [I8,Yi,Yf,Ybm];split
  .omega
  rw [Yax,Ybj];exact Ybl h1 (Nat.le_add_right _ _)
set_option maxRecDepth 100000 in
theorem Sq {bs:List Aa}{sp:Int}{i:Nat}(hp:∀e:Am,(AU bs e sp).length<=8192):∀l:List Aa,(∀b∈l,b.qb.to.length<=257)->(Gw bs sp i l).length<=l.length*2105344
 | [],_=>by simp [Gw]
 | b::l,h=>by
  have h1:=Sq (i:=i) hp l λx hx=>h x (Yd _ hx);have h2:=Sp (i:=i) hp b.qb.to;have h3:=h b (Yb ..);rw [Gw,Yi,Yf,Ybm];split
  .rw [Yax,Ybj];exact Ybl h1 (Nat.le_add_right _ _)
  omega
section
variable {u:Ao}(hu:Cm u=0)(hS:Iu u)(hM:Cn (lvU u)=0)
include hu
theorem VX {F:Ai}{k:Nat}(hF:u.fns[k]? =some F):Bu F=0:=K8 hu F (Ya hF)
include hS
theorem Uw {F:Ai}{k:Nat}(hF:u.fns[k]? =some F)(t:Int):(AI (Ac F).qa t).length<=4096:=by
 have gok:=Bf (DA (VX hu hF) (hS F (Ya hF)))
 cases h:(Ac F).qa[t.toNat]? with
 | none=>
  unfold AI;rw [h];exact Ybg _
 | some c=>
  rw [Br h];exact (gok.block_params (Ya h)).2.2
theorem Agm (n:Int):Ol u n 0= []:=by
 unfold Ol spU
 cases h:u.fns[n.toNat]? with
 | none=>
  have e:gU u n=default:=by unfold gU;rw [h];rfl
  rw [e];rfl
 | some F=>
  rw [Uv h];exact Aa9 (VX hu h) (hS F (Ya h)) _
include hM
theorem K9 {F:Ai}{k:Nat}(hF:u.fns[k]? =some F){i:Nat}{b:Aa}(hb:(Ac F).qa[i]? =some b):(Ev (Ac F).qa (Ay F.qa) i b).ins.length<=4096:=by
 have h0:=VX hu hF;have hl:=hS F (Ya hF);have gok:=Bf (DA h0 hl)
 have hcp:∀e:Am,(AU (Ac F).qa e (Ay F.qa)).length<=8192:=λe=>by
  have h1:=No (Ac F).qa e (Ay F.qa);have h2:=Uw hu hS hF e.block;omega
 have hP:B6 (lvF F)=0:=by
  unfold Cn at hM;split at hM
  .cases hM
  split at hM
  .cases hM
  split at hM
  .cases hM
  split at hM
  .rename_i h4;exact absurd hM h4
  rename_i h4;exact C4 (Decidable.not_not.1 h4) (lvF F) (Yg.2 ⟨F,Ya hF,rfl⟩)
 have hall:∀c∈(lvF F).qa,c.ins.length<=128*2105344+1024+8192:=λc hc=>by
  obtain⟨j,hj⟩:=Yk hc;unfold lvF at hj;rw [Gy] at hj
  cases hbj:(Ac F).qa[j]? with
  | none=>rw [hbj] at hj;cases hj
  | some bj=>
   rw [hbj] at hj;injection hj with hj;subst hj;have h1:=Sq (bs:=(Ac F).qa) (sp:=Ay F.qa) (i:=j) hcp (Ac F).qa λx hx=>Et gok hx;have h2:=Km (Ya hbj);have h3:=(DY.1 (DA h0 hl)).ins
   have h4:(FD (Ac F).qa (Ay F.qa) bj.qb).length<=8192:=by
    unfold FD;split
    .rename_i h1;obtain ⟨e,he⟩:=Yaf.1 h1;rw [he];have:=hcp e;simpa using this
    exact Ybg _
   show(Gw (Ac F).qa (Ay F.qa) j (Ac F).qa++bj.ins++FD (Ac F).qa (Ay F.qa) bj.qb).length<=_;rw [Yi,Yi];have h5:=gok.len;have h6:=Ybn 2105344 h5;omega
 have hlen:(lvF F).qa.length<=128:=by
  have:=gok.len;have h9:(lvF F).qa.length=(Ac F).qa.length:=Us _ _;omega
 have hN:=So hall;have hN2:CW (lvF F).qa<=128*(128*2105344+1024+8192):=Ybl hN (Ybn _ hlen);have hc:=Ii (lvF F).qa 0 (Ybo _) (by omega)
 have h4096:CW (lvF F).qa<=4096:=by
  unfold B6 at hP;split at hP
  .cases hP
  split at hP
  .cases hP
  rename_i h2;rw [hc] at h2;omega
 have hmem:(Ev (Ac F).qa (Ay F.qa) i b)∈(lvF F).qa:=by
  refine Ya (i:=i) ?_;show ((Is (Ac F) (Ay F.qa)).qa)[i]? =_;rw [Gy,hb];rfl
 exact Ybl (Km hmem) h4096
end
def up1 (M:AE):AE:= { M with left:=M.left+1 }
theorem Ny {p:Ao}{M:AE}{S':List Ar}{d:Int}(ho:M.over=false)(hs:M.short=false)(hd:0<=M.left+d)(N:Nat):goF p (N+1) (AO d (wst S' (up1 M)))=goF p N (As p (AO d (wst S' M))):=by
 have hp:Bw 1 (AO d (wst S' (up1 M)))=AO d (wst S' M):=by
  unfold Bw;rw [if_neg (by show ¬M.left+1+d<1;omega)];show ({ AO d (wst S' M) with left:=M.left+1+d - 1 }:AE)= { AO d (wst S' M) with left:=M.left+d };rw [show M.left+1+d - 1=M.left+d by omega]
 rw [Ef (by exact ho) _ (by rw [hp];exact hs),hp]
theorem XK {u:Ao}{M:AE}(h:MOk u M):MOk (Az u) M:=by
 have hl:(Az u).fns.length=u.fns.length:=Yh ..;refine ⟨λ f hf=> ?_,by rw [hl];exact h.heap,h.out,h.left0,h.left⟩;obtain ⟨h1,h2,⟨F,b,hF,hb,h3,h4⟩,h5⟩:=h.frames f hf;obtain ⟨to,g1,_⟩:=(FA F).old _ b hb;exact ⟨h1,h2,⟨Ac F,Ce b to,by rw [Kl,hF];rfl,g1,h3,h4⟩,by rw [hl];exact h5⟩
section
variable {u:Ao}(hu:Cm u=0)(hS:Iu u)(hM:Cn (lvU u)=0)
include hu hS
theorem Sr {fn k:Int}{F:Ai}(hF:u.fns[fn.toNat]? =some F){b:Aa}(h1:1<=k)(hb:(Ac F).qa[k.toNat]? =some b):(Aw (lvU u) fn k).params= []:=by
 rw [Abb hF hb];exact if_pos (by omega)
include hM
end
inductive LvC (q:Ao)(X:AE)(S':List Ar)(M:AE):List Ar->Nat->Prop where
 | one {S2:List Ar}:(∀d:Int,0<=d->As q (AO d (wst S' M))=AO d (wst S2 X))->LvC q X S' M S2 0
 | before {f':Ar} {fs':List Ar} {l:List Mv} {c0:Aa} {rest:List AQ} {S2:List Ar}:S'=f'::fs'->Aw q f'.fn f'.block=c0->0<=f'.at_->c0.ins.drop f'.at_.toNat=l.map mvI++rest->
   (∀d:Int,As q (AO d (wst ({ f' with at_:=f'.at_+(l.length:Nat),qc:=GK f'.qc l }::fs') M))=AO d (wst S2 X))->LvC q X S' M S2 l.length
 | after {f1:Ar} {fs1:List Ar} {l:List Mv} {c0:Aa} {rest:List AQ}:(∀d:Int,0<=d->As q (AO d (wst S' M))=AO d (wst (f1::fs1) X))->Aw q f1.fn f1.block=c0->0<=f1.at_->c0.ins.drop f1.at_.toNat=l.map mvI++rest->LvC q X S' M ({ f1 with at_:=f1.at_+(l.length:Nat),qc:=GK f1.qc l }::fs1) l.length
section
variable {u:Ao}(hu:Cm u=0)(hS:Iu u)(hM:Cn (lvU u)=0)
include hu hS hM
theorem Abc {M:AE}{S':List Ar}(hMv:MOk (Az u) M)(hSL:SL u M.stack S')(ho:M.over=false)(hs:M.short=false)(hs2:(As (Az u) M).short=false)(hl2:0<=(As (Az u) M).left)(h5:¬((As (Az u) M).over=true/\(As (Az u) M).fin=5)):
    ∃(c:Nat) (S'':List Ar),c<=4096/\(∀g gs,(As (Az u) M).stack=g::gs->(Aw (Az u) g.fn g.block).params= []->c=0)/\SL u (As (Az u) M).stack S''/\
      LvC (lvU u) (As (Az u) M) S' M S'' c:=by
  have hl:=hMv.left0
  -- a single step suffices
  have one:∀S'':List Ar,SL u (As (Az u) M).stack S''->(∀d:Int,0<=d->As (lvU u) (AO d (wst S' M))=AO d (wst S'' (As (Az u) M)))->∃(c:Nat) (S'':List Ar),c<=4096/\(∀g gs,(As (Az u) M).stack=g::gs->(Aw (Az u) g.fn g.block).params= []->c=0)/\SL u (As (Az u) M).stack S''/\
      LvC (lvU u) (As (Az u) M) S' M S'' c:=λS'' h1 h2=>
    ⟨0,S'',Ybg _,λ_ _ _ _=>rfl,h1, .one h2⟩
  cases hst:M.stack with
  | nil=>
    rw [hst] at hSL
    cases hSL
    have e:As (Az u) M=M:=by unfold As;rw [hst]
    refine one [] (by rw [e,hst];exact .nil) λd hd=> ?_;rw [e];rfl
  | cons f fs=>
    rw [hst] at hSL
    cases hSL with
    | @cons _ f' _ fs' hf hfs=>
    obtain⟨hf0,hb0,⟨G0,b,hG,hb,ha0,ha1⟩,_⟩:=hMv.frames f (by rw [hst];exact Yb ..);rw [Kl] at hG
    obtain⟨F,hF,hFG⟩:∃F,u.fns[f.fn.toNat]? =some F/\Ac F=G0:=by
      cases hx:u.fns[f.fn.toNat]? with
      | none=>rw [hx] at hG;cases hG
      | some F=>rw [hx] at hG;injection hG with hG;exact⟨F,rfl,hG⟩
    subst hFG;have hFm:=Ya hF;have hbm:=Ya hb;have h0:=VX hu hF;have hlF:=hS F hFm;have g0:=DA h0 hlF;have gok:=Bf g0;have fi:=DY.1 g0;have hE:=CN (fi.block b hbm).2;obtain ⟨a1,a2,a3,a4⟩:=Nx h0 hlF;have esp:spU u f.fn=Ay F.qa:=by unfold spU;rw [Uv hF]
    have epre:∀k:Int,Ol u f.fn k=Gw (Ac F).qa (Ay F.qa) k.toNat (Ac F).qa:=λk=>by unfold Ol;rw [esp,Uv hF]
    have eb:Aw (Az u) f.fn f.block=b:=by rw [Aba hF,hb];rfl
    have ep:Aw (lvU u) f.fn f.block=Ev (Ac F).qa (Ay F.qa) f.block.toNat b:=Abb hF hb;have hsmall:=K9 hu hS hM hF hb;have hat:=hf.at_;rw [epre] at hat;have hvals:=hf.qc;rw [esp] at hvals;have hins:(Ev (Ac F).qa (Ay F.qa) f.block.toNat b).ins=Gw (Ac F).qa (Ay F.qa) f.block.toNat (Ac F).qa++b.ins++FD (Ac F).qa (Ay F.qa) b.qb:=rfl;obtain ⟨pre,hpre⟩:∃x,x=Gw (Ac F).qa (Ay F.qa) f.block.toNat (Ac F).qa:=⟨_,rfl⟩;rw [<- hpre] at hat hins
    have hstep:As (Az u) M=if f.at_=(b.ins.length:Int) then Bx (Az u) f b.qb fs M else D4 (Az u) { f with at_:=f.at_+1 } (b.ins[f.at_.toNat]?.getD default) fs (wst ({ f with at_:=f.at_+1 }::fs) M):=by
      unfold As;rw [hst];dsimp only;rw [eb];rfl
    have hstep2:∀d,As (lvU u) (AO d (wst (f'::fs') M))=if f'.at_=((Ev (Ac F).qa (Ay F.qa) f.block.toNat b).ins.length:Int) then Bx (lvU u) f' (FU b.qb) fs' (AO d (wst (f'::fs') M)) else D4 (lvU u) { f' with at_:=f'.at_+1 } ((Ev (Ac F).qa (Ay F.qa) f.block.toNat b).ins[f'.at_.toNat]?.getD default) fs' (AO d (wst ({ f' with at_:=f'.at_+1 }::fs') M)):=λd=>by
      unfold As;show (if f'.at_=((Aw (lvU u) f'.fn f'.block).ins.length:Int) then Bx (lvU u) f' (Aw (lvU u) f'.fn f'.block).qb fs' _ else _)=_;rw [hf.fn,hf.block,ep];rfl
    by_cases h1:f.at_=(b.ins.length:Int)
    . -- the end of a block
      rw [if_pos h1] at hstep;have hT:FO (Ac F) b.qb:=((GX (Nu hu hS)).u).qb (Ac F) (Ya (by rw [Kl,hF];rfl)) b hbm
      by_cases hone:b.qb.to.length=1
      . -- one edge
        obtain⟨e,he⟩:=Yaf.1 hone;have hem:e∈b.qb.to:=by rw [he];exact Yl.2 rfl
        obtain⟨e1,e2,e3⟩:=hE.edges e hem;obtain ⟨c,hc⟩:=Ab (Ac F).qa e.block.toNat (by omega)
        have hpost:FD (Ac F).qa (Ay F.qa) b.qb=(E8 (DN (Ac F).qa e) (Ay F.qa)).1.map mvI:=by
          unfold FD;rw [if_pos hone,he];show AU _ _ _++ []=_;rw [Yo];rfl
        rw [hpost] at hins;obtain ⟨l,hll⟩:∃l,l=(E8 (DN (Ac F).qa e) (Ay F.qa)).1:=⟨_,rfl⟩;rw [<- hll] at hins
        have hll4:l.length<=4096:=by
          rw [hins,Yi,Yh] at hsmall;omega
        have hk:b.qb.kind=1\/b.qb.kind=3:=by
          have hsh:=hE.shape;unfold Dh at hsh
          by_cases k0:b.qb.kind=0
          . rw [if_pos k0,hone] at hsh;simp at hsh
          rw [if_neg k0] at hsh
          by_cases k1:b.qb.kind=1
          . exact .inl k1
          rw [if_neg k1] at hsh
          by_cases k2:b.qb.kind=2
          . rw [if_pos k2,hone] at hsh;simp at hsh
          rw [if_neg k2] at hsh
          by_cases k3:b.qb.kind=3
          . exact .inr k3
          rw [if_neg k3] at hsh;split at hsh
          . rw [hone] at hsh;simp at hsh
          cases hsh
        have hgo:As (Az u) M= { M with stack:=AM (Az u) f e::fs }:=by
          rw [hstep] at h5 ⊢;unfold Bx at h5 ⊢;rcases hk with hk | hk
          . rw [if_neg (by omega),if_pos hk];show ({ M with stack:=AM (Az u) f ((b.qb.to[0]?).getD default)::fs }:AE)=_;rw [he];rfl
          rw [if_neg (by omega),if_neg (by omega),if_neg (by omega)] at h5 ⊢
          by_cases kw:(AN f.qc b.qb.arg).kind≠0
          . rw [if_pos kw] at h5;exact absurd ⟨rfl,rfl⟩ h5
          rw [if_neg kw];have hch:=Fc hT (AN f.qc b.qb.arg).n (by omega) (by omega) (by omega);have hz:(DK b.qb (AN f.qc b.qb.arg).n).toNat=0:=by omega
          rw [hz];show ({ M with stack:=AM (Az u) f ((b.qb.to[0]?).getD default)::fs }:AE)=_;rw [he];rfl
        have htL:(FU b.qb).kind=1/\(FU b.qb).to= [I7 e]:=by
          refine⟨?_,by rw [Aa3,he];rfl⟩;unfold FU;rcases hk with hk | hk
          . rw [if_neg (λ h=>by omega)];exact hk
          rw [if_pos ⟨hk,hone⟩]
        have hblk:(Aw (Az u) f.fn e.block).params=c.params:=by rw [Aba hF,hc];rfl
        obtain⟨f2,hf2⟩:∃f2:Ar,f2= { f' with at_:=f'.at_+(l.length:Nat),qc:=GK f'.qc l }:=⟨_,rfl⟩;have hsem:=Sn h0 hlF hbm hem hc (m:=f.qc) (m':=f'.qc) hvals
        have hFL:FL u (AM (Az u) f e) (AM (lvU u) f2 (I7 e)):=by
          refine⟨by rw [hf2];exact hf.fn,rfl,by rw [hf2];exact hf.to,?_,?_⟩
          . show(0:Int)=0+((Ol u f.fn e.block).length:Nat);rw [epre,Uu h0 hlF _ hbm he];rfl
          show AgL (spU u f.fn) (Cd f.qc (Aw (Az u) f.fn e.block).params (AG f.qc e.args)) (Cd f2.qc (Aw (lvU u) f2.fn e.block).params (AG f2.qc []));have e9:f2.fn=f.fn:=by rw [hf2];exact hf.fn
          rw [e9,Sr hu hS hF e1 hc,hblk,esp];show AgL _ _ f2.qc;rw [hf2,hll];exact hsem
        refine⟨l.length,AM (lvU u) f2 (I7 e)::fs',hll4,λg gs hg hgp=> ?_,by rw [hgo];exact .cons hFL hfs, .before (l:=l) (rest:= []) (c0:=Ev (Ac F).qa (Ay F.qa) f.block.toNat b) rfl (by rw [hf.fn,hf.block];exact ep) (by rw [hat];omega) (by rw [hins,Yo,hat,h1,List.drop_left' (by rw [Yi];omega)]) λd=> ?_⟩
        . rw [hgo] at hg;injection hg with hg _;rw [<- hg] at hgp;have hgp:(Aw (Az u) f.fn e.block).params= []:=hgp;rw [hblk] at hgp;have h9:=Kh (DN (Ac F).qa e) (Ay F.qa);have h8:=K6 (Ac F).qa e;rw [Br hc,hgp] at h8;rw [hll];rw [Yax] at h8;omega
        rw [<- hf2,hgo];unfold As;show (if f2.at_=((Aw (lvU u) f2.fn f2.block).ins.length:Int) then Bx (lvU u) f2 (Aw (lvU u) f2.fn f2.block).qb fs' _ else _)=_;have e9:f2.fn=f.fn:=by rw [hf2];exact hf.fn
        have e8:f2.block=f.block:=by rw [hf2];exact hf.block
        rw [e9,e8,ep,if_pos (by rw [hf2,hins,Yi,Yi,Yh];show f'.at_+_=_;rw [hat,h1];omega)];show Bx (lvU u) f2 (FU b.qb) fs' _=_;unfold Bx;rw [if_neg (by rw [htL.1];decide),if_pos htL.1];show ({ AO _ (wst (f2::fs') M) with stack:=AM (lvU u) f2 (((FU b.qb).to[0]?).getD default)::fs' }:AE)=_;rw [htL.2];rfl
      . -- several edges,or none
        have hpost:FD (Ac F).qa (Ay F.qa) b.qb= []:=by unfold FD;rw [if_neg hone]
        rw [hpost,Yo] at hins;have hatE:f'.at_=((Ev (Ac F).qa (Ay F.qa) f.block.toNat b).ins.length:Int):=by rw [hins,hat,h1,Yi];omega
        have htl:FU b.qb=⟨b.qb.kind,b.qb.arg,b.qb.n,b.qb.cases,b.qb.to.map I7⟩:=by unfold FU;rw [if_neg (λ h=>hone h.2)]
        have hstep3:∀d,As (lvU u) (AO d (wst (f'::fs') M))=Bx (lvU u) f' ⟨b.qb.kind,b.qb.arg,b.qb.n,b.qb.cases,b.qb.to.map I7⟩ fs' (AO d (wst (f'::fs') M)):=λd=>by rw [hstep2,if_pos hatE,htl]
        have hsr:SL u (f::fs) (f'::fs'):= .cons hf hfs
        have same:∀X:AE,As (Az u) M=X->X.stack=f::fs->(∀d,As (lvU u) (AO d (wst (f'::fs') M))=AO d (wst (f'::fs') X))->∃(c:Nat) (S'':List Ar),c<=4096/\(∀g gs,(As (Az u) M).stack=g::gs->(Aw (Az u) g.fn g.block).params= []->c=0)/\SL u (As (Az u) M).stack S''/\
            LvC (lvU u) (As (Az u) M) (f'::fs') M S'' c:=λX hX hXs hXd=>one (f'::fs') (by rw [hX,hXs];exact hsr) λd _=>by rw [hXd,hX]
        have go:∀k:Nat,k<b.qb.to.length->As (Az u) M= { M with stack:=AM (Az u) f (BO b.qb k)::fs }->(∀d,As (lvU u) (AO d (wst (f'::fs') M))= { AO d (wst (f'::fs') M) with stack:=AM (lvU u) f' (((b.qb.to.map I7)[k]?).getD default)::fs' })->∃(c:Nat) (S'':List Ar),c<=4096/\(∀g gs,(As (Az u) M).stack=g::gs->(Aw (Az u) g.fn g.block).params= []->c=0)/\SL u (As (Az u) M).stack S''/\
            LvC (lvU u) (As (Az u) M) (f'::fs') M S'' c:=λk hk hgo hpd=>by
          obtain⟨e,he⟩:=Ab b.qb.to k (by omega);have ee:BO b.qb k=e:=by unfold BO;rw [he];rfl
          have ee2:((b.qb.to.map I7)[k]?).getD default=I7 e:=by rw [Yn,he];rfl
          rw [ee] at hgo;have hem:=Ya he;obtain ⟨e1,e2,e3⟩:=hE.edges e hem;obtain ⟨c,hc⟩:=Ab (Ac F).qa e.block.toNat (by omega);have hblk:(Aw (Az u) f.fn e.block).params=c.params:=by rw [Aba hF,hc];rfl
          have hpre2:=XJ h0 hlF (Ay F.qa) hbm hone hem;obtain ⟨l,hll⟩:∃l,l=(E8 (DN (Ac F).qa e) (Ay F.qa)).1:=⟨_,rfl⟩;have hpre3:Gw (Ac F).qa (Ay F.qa) e.block.toNat (Ac F).qa=l.map mvI:=by rw [hpre2,hll];rfl
          have hsmall2:=K9 hu hS hM hF hc
          have hinsc:(Ev (Ac F).qa (Ay F.qa) e.block.toNat c).ins=l.map mvI++(c.ins++FD (Ac F).qa (Ay F.qa) c.qb):=by
            show Gw _ _ _ _++c.ins++_=_;rw [hpre3,Yj]
          have hll4:l.length<=4096:=by
            rw [hinsc,Yi,Yh] at hsmall2;omega
          obtain⟨f1,hf1⟩:∃f1:Ar,f1=AM (lvU u) f' (I7 e):=⟨_,rfl⟩
          have hf1v:f1.qc=f'.qc:=by
            rw [hf1];show Cd f'.qc (Aw (lvU u) f'.fn e.block).params (AG f'.qc [])=_;rw [hf.fn,Sr hu hS hF e1 hc];rfl
          have hf1f:f1.fn=f.fn:=by rw [hf1];exact hf.fn
          have hf1b:f1.block=e.block:=by rw [hf1];rfl
          have hf1a:f1.at_=0:=by rw [hf1];rfl
          have hsem:=Sn h0 hlF hbm hem hc (m:=f.qc) (m':=f'.qc) hvals
          have hFL:FL u (AM (Az u) f e) { f1 with at_:=f1.at_+(l.length:Nat),qc:=GK f1.qc l }:=by
            refine⟨hf1f,hf1b,by show f1.to=f.to;rw [hf1];exact hf.to,?_,?_⟩
            . show f1.at_+(l.length:Nat)=0+((Ol u f.fn e.block).length:Nat);rw [epre,hpre3,hf1a,Yh]
            show AgL (spU u f.fn) (Cd f.qc (Aw (Az u) f.fn e.block).params (AG f.qc e.args)) (GK f1.qc l);rw [hblk,esp,hf1v,hll];exact hsem
          refine⟨l.length,_,hll4,λg gs hg hgp=> ?_,by rw [hgo];exact .cons hFL hfs, .after (l:=l) (c0:=Ev (Ac F).qa (Ay F.qa) e.block.toNat c) (rest:=c.ins++FD (Ac F).qa (Ay F.qa) c.qb) (λ d _=> ?_) (by rw [hf1f,hf1b];exact Abb hF hc) (by rw [hf1a];exact Ybo _) (by rw [hinsc,hf1a];rfl)⟩
          . rw [hgo] at hg;injection hg with hg _;rw [<- hg] at hgp;have hgp:(Aw (Az u) f.fn e.block).params= []:=hgp;rw [hblk] at hgp;have h9:=Kh (DN (Ac F).qa e) (Ay F.qa);have h8:=K6 (Ac F).qa e;rw [Br hc,hgp] at h8;rw [hll];rw [Yax] at h8;omega
          rw [hpd d,ee2, <- hf1,hgo];rfl
        have harg:b.qb.kind≠1/\b.qb.kind≠4->AN f'.qc b.qb.arg=AN f.qc b.qb.arg:=λhk=>hvals _ (a2 b hbm hk);unfold Bx at hstep hstep3;dsimp only at hstep3
        by_cases k4:b.qb.kind=4
        . rw [if_pos k4] at hstep;refine same _ hstep hst λd=> ?_;rw [hstep3,if_pos k4];rfl
        rw [if_neg k4] at hstep
        by_cases k1:b.qb.kind=1
        . rw [if_pos k1] at hstep;exact go 0 (by have:=hT.one k1;omega) hstep λd=>by rw [hstep3,if_neg k4,if_pos k1];rfl
        rw [if_neg k1] at hstep
        by_cases k0:b.qb.kind=0
        . rw [if_pos k0] at hstep;have hpd:∀d,As (lvU u) (AO d (wst (f'::fs') M))=FJ f' (AN f.qc b.qb.arg) fs' (AO d (wst (f'::fs') M)):=λd=>by rw [hstep3,if_neg k4,if_neg k1,if_pos k0,harg ⟨k1,k4⟩]
          cases hfs with
          | nil=>
            refine one [] (by rw [hstep];exact .nil) λd _=> ?_;rw [hpd,hstep];rfl
          | @cons g g' gs gs' hg hgs=>
            refine one ({ g' with qc:=CM g'.qc f'.to (AN f.qc b.qb.arg) }::gs') (by rw [hstep];exact .cons ⟨hg.fn,hg.block,hg.to,hg.at_,by show AgL (spU u g.fn) (CM g.qc f.to _) (CM g'.qc f'.to _);rw [hf.to];exact hg.qc.put _ _⟩ hgs) λd _=> ?_;rw [hpd,hstep];rfl
        rw [if_neg k0] at hstep
        by_cases kw:(AN f.qc b.qb.arg).kind≠0
        . rw [if_pos kw] at hstep;exact absurd ⟨by rw [hstep];rfl,by rw [hstep];rfl⟩ h5
        rw [if_neg kw] at hstep;have hch:=Fc hT (AN f.qc b.qb.arg).n k0 k1 k4;exact go _ (by omega) hstep λd=>by rw [hstep3,if_neg k4,if_neg k1,if_neg k0,harg ⟨k1,k4⟩,if_neg kw];rfl
    . -- an instruction
      rw [if_neg h1] at hstep;obtain ⟨i,hi⟩:=Ab b.ins f.at_.toNat (by omega);have him:=Ya hi;rw [hi,Option.getD_some] at hstep
      have hci:(Ev (Ac F).qa (Ay F.qa) f.block.toNat b).ins[f'.at_.toNat]? =some i:=by
        rw [hins,Yj,Yx (by rw [hat];omega),Yac (by rw [hat];omega),hat,show(f.at_+(pre.length:Nat)).toNat - pre.length=f.at_.toNat by omega];exact hi
      have hstep3:∀d,As (lvU u) (AO d (wst (f'::fs') M))=D4 (lvU u) { f' with at_:=f'.at_+1 } i fs' (AO d (wst ({ f' with at_:=f'.at_+1 }::fs') M)):=λd=>by
        rw [hstep2,if_neg (by have:=(Yc.1 hci).1;omega),hci];rfl
      have hargs:AG f'.qc i.args=AG f.qc i.args:=AgL.take hvals λa ha=>a1 b hbm i him a ha;have hf1:FL u { f with at_:=f.at_+1 } { f' with at_:=f'.at_+1 }:=⟨hf.fn,hf.block,hf.to,by show f'.at_+1=f.at_+1+((Ol u f.fn f.block).length:Nat);rw [hf.at_];omega,hf.qc⟩
      have ent:∀n to,As (Az u) M=Dv (Az u) n (AG f.qc i.args) to (wst ({ f with at_:=f.at_+1 }::fs) M)->(∀d,As (lvU u) (AO d (wst (f'::fs') M))=Dv (lvU u) n (AG f.qc i.args) to (AO d (wst ({ f' with at_:=f'.at_+1 }::fs') M)))->∃(c:Nat) (S'':List Ar),c<=4096/\(∀g gs,(As (Az u) M).stack=g::gs->(Aw (Az u) g.fn g.block).params= []->c=0)/\SL u (As (Az u) M).stack S''/\
            LvC (lvU u) (As (Az u) M) (f'::fs') M S'' c:=λn to hv hpd=>by
        refine one (Bk (Az u) n (AG f.qc i.args) to:: { f' with at_:=f'.at_+1 }::fs') ?_ λd _=> ?_
        . rw [hv];refine .cons ⟨rfl,rfl,rfl,?_,λx _=>rfl⟩ (.cons hf1 hfs);show (0:Int)=0+((Ol u n 0).length:Nat);rw [Agm hu hS];rfl
        rw [hpd,hv];unfold Dv;rw [Pp];rfl
      unfold D4 at hstep hstep3;dsimp only at hstep hstep3
      by_cases o13:i.op=13
      . rw [if_pos o13] at hstep;exact ent _ _ hstep λd=>by rw [hstep3,hargs,if_pos o13]
      rw [if_neg o13] at hstep
      by_cases o14:i.op=14
      . rw [if_pos o14] at hstep
        by_cases hc:(Ah (AG f.qc i.args) 0).kind=2/\(AT (Az u) (Ah (AG f.qc i.args) 0).n).length=(AG f.qc i.args).length
        . rw [if_pos hc] at hstep;exact ent _ _ hstep λd=>by rw [hstep3,hargs,if_neg o13,if_pos o14,VV,if_pos hc]
        rw [if_neg hc] at hstep;exact absurd ⟨by rw [hstep];rfl,by rw [hstep];rfl⟩ h5
      rw [if_neg o14] at hstep;have e1:=Mb i (AG f.qc i.args) M ({ f with at_:=f.at_+1 }::fs);rw [e1] at hstep;rw [hstep] at hs2 hl2
      have hsx:(AZ i (AG f.qc i.args) M).1.short=false:=by
        dsimp only at hs2;split at hs2 <;> exact hs2
      have hlx:0<=(AZ i (AG f.qc i.args) M).1.left:=by
        dsimp only at hl2;split at hl2 <;> exact hl2
      have e2:=Mb i (AG f.qc i.args) M ({ f' with at_:=f'.at_+1 }::fs');refine one ({ f' with at_:=f'.at_+1,qc:=CM f'.qc i.to (AZ i (AG f.qc i.args) M).2.1 }::fs') (by rw [hstep];exact .cons ⟨hf1.fn,hf1.block,hf1.to,hf1.at_,hf.qc.put _ _⟩ hfs) λd hd=> ?_;have e3:=(Ll i (AG f.qc i.args) (wst ({ f' with at_:=f'.at_+1 }::fs') M) d hs (by rw [e2];exact hsx) (by show 0<=M.left+d;omega)).1 (by rw [e2];show 0<=(AZ i (AG f.qc i.args) M).1.left+d;omega);rw [hstep3,hargs,if_neg o13,if_neg o14,e3,e2,hstep];dsimp only
      by_cases hx:(AZ i (AG f.qc i.args) M).2.2≠0
      . rw [if_pos hx,if_pos hx];rfl
      rw [if_neg hx,if_neg hx];rfl
end
theorem XL {f:Ai}(h0:Bu f=0):(B9 (Bp f)).length=(Bp f).qa.length:=by
 have hok:=Bf h0;have ho:=Dj hok.pos hok.edges;have gok:=Bf (RW h0);have go:=Dj gok.pos gok.edges
 have hall:∀i<(Bp f).qa.length,i∈AJ (Bp f).qa:=λi hi=>by
  obtain⟨c,hc⟩:=Ab (Bp f).qa i (by omega);obtain ⟨v,b,hv,hr,hb,_⟩:=Il ho hc;obtain ⟨l,hw⟩:=(K1 hok).1 hv;rw [<- hr];exact (K1 gok).2 ⟨_,(Gd ho hok.edges hw).2.2⟩
 rw [Ho go,Yh];unfold Bq;rw [List.filter_eq_self.2 λv hv=>by rw [decide_eq_true_eq];exact hall v (Yay.1 hv),List.length_range]
def Dn (f:Ai)(k:Nat):Nat:=((Yz k).filter λv=>decide (v∈AJ f.qa)).length
theorem Abd {f:Ai}(h0:Bu f=0){k:Nat}(hk:k<f.qa.length):gI (atF f) k= -1/\Dn f (k+1)=Dn f k\/gI (atF f) k=(Dn f k:Int)/\Dn f (k+1)=Dn f k+1:=by
 have hok:=Bf h0;have ho:=Dj hok.pos hok.edges
 have hs:Dn f (k+1)=Dn f k+(if k∈AJ f.qa then 1 else 0):=by
  unfold Dn;rw [List.range_succ,List.filter_append,Yi]
  congr 1
  by_cases h:k∈AJ f.qa
  .rw [if_pos h,List.filter_cons_of_pos (by simpa using h)];rfl
  rw [if_neg h,List.filter_cons_of_neg (by simpa using h)];rfl
 rcases AaR ho hk with ⟨h1,h2⟩ | ⟨h1,h2,h3⟩
 .exact .inl ⟨h1,by rw [hs,if_neg h2];rfl⟩
 refine .inr ⟨?_,by rw [hs,if_pos h1]⟩;rw [h2]
 have hg:(Bq f)[Dn f k]? =some k:=by
  have e:f.qa.length=k+((f.qa.length - k - 1)+1):=by omega
  unfold Bq;rw [e,List.range_add,List.filter_append,List.range_succ_eq_map,Yt,List.filter_cons_of_pos (by simpa using h1),Yx (by unfold Dn;omega)];unfold Dn;rw [Ybk];rfl
 have:=Jx Ee h3 hg;omega
def skT (b:Aa):BG:=if b.qb.kind=0 then ⟨4,0,3,[],[]⟩ else ⟨b.qb.kind,0,b.qb.n,b.qb.cases,b.qb.to⟩
def skB (k:Nat)(b:Aa):Aa:=if (skT b).kind=2\/(skT b).kind=3 then ⟨[],[⟨k,0,0,[]⟩],⟨(skT b).kind,k,(skT b).n,(skT b).cases,(skT b).to⟩⟩ else ⟨[],[],skT b⟩
def skL:Nat->List Aa->List Aa
 | _,[]=> []
 | k,b::l=>skB k b::skL (k+1) l
def skF (f:Ai):Ai:=⟨-1,skL 0 f.qa⟩
theorem Mc:∀(l:List Aa) (k:Nat),(skL k l).length=l.length
 | [],k=>rfl
 | b::l,k=>by rw [skL,Yf,Yf,Mc l]
theorem VY:∀(l:List Aa) (k i:Nat),(skL k l)[i]? =(l[i]?).map (skB (k+i))
 | [],k,i=>by simp [skL]
 | b::l,k,0=>rfl
 | b::l,k,i+1=>by
  rw [skL,Yau,Yau,VY l,show k+1+i=k+(i+1) by omega]
theorem IY (f:Ai):(skF f).qa.length=f.qa.length:=Mc ..
theorem Md {f:Ai}{k:Nat}{b:Aa}(h:f.qa[k]? =some b):(skF f).qa[k]? =some (skB k b):=by
 show(skL 0 f.qa)[k]? =_;rw [VY,h,Ybi];rfl
theorem Abe {k:Nat}{b:Aa}:(skB k b).qb.to=(skT b).to:=by
 unfold skB;split <;> rfl
def orB (a:List Bool)(b:List Bool):List Bool:=List.zipWith (λ x y=>x||y) a b
def Om (s:List Bool)(args:List Int):List Bool:=args.foldl (λ s a=>s.set a.toNat true) s
def H0 (s:List Bool)(i:AQ):List Bool:=Om (s.set i.to.toNat false) i.args
def La (t:BG)(s:List Bool):List Bool:=if t.kind≠1/\t.kind≠4 then s.set t.arg.toNat true else s
def Qz (b:Aa)(s:List Bool):List Bool:=b.ins.reverse.foldl H0 (La b.qb s)
theorem Ss:∀(l:List Int) (s:List Bool),(Om s l).length=s.length
 | [],s=>rfl
 | a::l,s=>by
  show(Om (s.set a.toNat true) l).length=_;rw [Ss l,Yu]
theorem Abf (s:List Bool)(i:AQ):(H0 s i).length=s.length:=by rw [H0,Ss,Yu]
theorem Lb:∀(l:List AQ) (s:List Bool),(l.foldl H0 s).length=s.length
 | [],s=>rfl
 | i::l,s=>by rw [Yp,Lb l,Abf]
theorem Nz (t:BG)(s:List Bool):(La t s).length=s.length:=by
 unfold La;split
 .rw [Yu]
 rfl
theorem Abg (b:Aa)(s:List Bool):(Qz b s).length=s.length:=by rw [Qz,Lb,Nz]
abbrev Nds:=List (List Bool)
def A6 (Nd:Nds)(k:Nat):List Bool:=Nd[k]?.getD []
def orE (Nd:Nds)(s:List Bool)(to:List Am):List Bool:=to.foldl (λ s e=>orB s (A6 Nd e.block.toNat)) s
def Su (Nd:Nds)(many:Nat)(b:Aa):List Bool:=orE Nd (Ym many false) b.qb.to
def Db (Nd:Nds)(many:Nat)(b:Aa):List Bool:=Qz b (Su Nd many b)
structure Lc (G:List Aa)(order:List Nat)(many:Nat)(Nd:Nds):Prop where
 len:Nd.length=G.length
 row:∀s∈Nd,s.length=many
 fix:∀k∈order,∀b,G[k]? =some b->Nd[k]? =some (Db Nd many b)
def LeB (s t:List Bool):Prop:=s.length=t.length/\∀i:Nat,s[i]? =some true->t[i]? =some true
theorem LeB.refl (s:List Bool):LeB s s:=⟨rfl,λ_ h=>h⟩
theorem LeB.trans {s t u:List Bool}(h:LeB s t)(k:LeB t u):LeB s u:=⟨h.1.trans k.1,λi hi=>k.2 i (h.2 i hi)⟩
theorem LeB.set {s t:List Bool}(h:LeB s t)(j:Nat)(x:Bool):LeB (s.set j x) (t.set j x):=⟨by rw [Yu,Yu];exact h.1,λi hi=>by
 rw [Yr] at hi ⊢;split
 .rename_i e;rw [if_pos e] at hi;split at hi
  .rename_i hl;rw [if_pos (by rw [<- h.1];exact hl)];exact hi
  cases hi
 rename_i e;rw [if_neg e] at hi;exact h.2 i hi⟩
theorem VZ:∀ {l:List Int} {s t:List Bool},LeB s t->LeB (Om s l) (Om t l)
 | [],s,t,h=>h
 | a::l,s,t,h=>VZ (l:=l) (h.set a.toNat true)
theorem Sv:∀ {l:List AQ} {s t:List Bool},LeB s t->LeB (l.foldl H0 s) (l.foldl H0 t)
 | [],s,t,h=>h
 | i::l,s,t,h=>by
  rw [Yp,Yp];exact Sv (VZ (h.set i.to.toNat false))
theorem Adn {b:Aa}{s t:List Bool}(h:LeB s t):LeB (Qz b s) (Qz b t):=by
 unfold Qz;refine Sv ?_;unfold La;split
 .exact h.set _ true
 exact h
theorem DO {s t:List Bool}(h:s.length=t.length):(orB s t).length=s.length:=by
 unfold orB;rw [List.length_zipWith];omega
theorem Me {s t:List Bool}{i:Nat}{x y:Bool}(h:s[i]? =some x)(k:t[i]? =some y):(orB s t)[i]? =some (x||y):=by
 unfold orB;rw [List.getElem?_zipWith,h,k]
theorem Afb {s s' t t':List Bool}(h:LeB s s')(k:LeB t t')(hl:s.length=t.length):LeB (orB s t) (orB s' t'):=by
 refine⟨by rw [DO hl,DO (by rw [<- h.1, <- k.1];exact hl)];exact h.1,λi hi=> ?_⟩;have hil:=(Yc.1 hi).1;rw [DO hl] at hil;obtain ⟨x,hx⟩:=Ab s i (by omega);obtain ⟨y,hy⟩:=Ab t i (by omega);obtain ⟨x',hx'⟩:=Ab s' i (by have:=h.1;omega);obtain ⟨y',hy'⟩:=Ab t' i (by have:=k.1;omega);rw [Me hx hy] at hi;injection hi with hi;rw [Me hx' hy'];have h1:=h.2 i;have k1:=k.2 i;rw [hx,hx'] at h1;rw [hy,hy'] at k1
 cases x <;> cases y <;> simp_all
def FV (many:Nat)(Nd:Nds):Prop:=∀s∈Nd,s.length=many
theorem HM {many:Nat}{Nd:Nds}(h:FV many Nd){k:Nat}(hk:k<Nd.length):(A6 Nd k).length=many:=by
 obtain⟨s,hs⟩:=Ab Nd k (by omega);unfold A6;rw [hs];exact h s (Ya hs)
def LeN (A B:Nds):Prop:=A.length=B.length/\∀k,LeB (A6 A k) (A6 B k)
theorem IZ {many:Nat}{Nd:Nds}(h:FV many Nd):∀ {to:List Am} {s:List Bool},s.length=many->(∀e∈to,e.block.toNat<Nd.length)->(orE Nd s to).length=many
 | [],s,hs,_=>hs
 | e::to,s,hs,ht=>by
  show(orE Nd (orB s (A6 Nd e.block.toNat)) to).length=many;have hl:=HM h (ht e (Yb ..));exact IZ h (by rw [DO (by omega)];exact hs) λx hx=>ht x (Yd _ hx)
theorem Abh {many:Nat}{A B:Nds}(hA:FV many A)(hB:FV many B)(h:LeN A B):∀ {to:List Am} {s t:List Bool},s.length=many->LeB s t->(∀e∈to,e.block.toNat<A.length)->LeB (orE A s to) (orE B t to)
 | [],s,t,_,hs,_=>hs
 | e::to,s,t,hs0,hs,ht=>by
  show LeB (orE A (orB s (A6 A e.block.toNat)) to) (orE B (orB t (A6 B e.block.toNat)) to);have hl:=HM hA (ht e (Yb ..));exact Abh hA hB h (by rw [DO (by omega)];exact hs0) (Afb hs (h.2 _) (by omega)) λx hx=>ht x (Yd _ hx)
theorem Abi {many:Nat}{A B:Nds}(hA:FV many A)(hB:FV many B)(h:LeN A B){b:Aa}(ht:∀e∈b.qb.to,e.block.toNat<A.length):LeB (Db A many b) (Db B many b):=
 Adn (Abh hA hB h Yq (.refl _) ht)
theorem Ld {many:Nat}{Nd:Nds}(h:FV many Nd){b:Aa}(ht:∀e∈b.qb.to,e.block.toNat<Nd.length):(Db Nd many b).length=many:=by
 unfold Db Su;rw [Abg,IZ h Yq ht]
def Kn (Nd:Nds):Nat:=(Nd.map (·.count false)).sum
theorem Abj:∀ {s t:List Bool},LeB s t->t.count false<=s.count false/\(s=t\/t.count false<s.count false)
 | [],t,h=>by
  have:t= []:=Yaq.1 h.1.symm;subst this;exact ⟨Ybh _, .inl rfl⟩
 | x::s,[],h=>by cases h.1
 | x::s,y::t,h=>by
  have h1:LeB s t:=⟨by have:=h.1;simpa using this,λk hk=>h.2 (k+1) hk⟩;obtain ⟨a,b⟩:=Abj h1;have h0:=h.2 0
  cases x with
  | true=>
   have:y=true:=by have:=h0 rfl;simpa using this
   subst this;rw [Ybf (by decide),Ybf (by decide)];exact ⟨a,b.elim (λ e=> .inl (by rw [e])) .inr⟩
  | false=>
   rw [List.count_cons_self]
   cases y with
   | true=>
    rw [Ybf (by decide)];exact ⟨by omega, .inr (by omega)⟩
   | false=>
    rw [List.count_cons_self];exact ⟨by omega,b.elim (λ e=> .inl (by rw [e])) λe=> .inr (by omega)⟩
theorem V0:∀ {Nd:Nds} {k:Nat} {s t:List Bool},Nd[k]? =some s->t.count false<s.count false->Kn (Nd.set k t)<Kn Nd
 | [],k,s,t,h,_=>by simp at h
 | x::Nd,0,s,t,h,hc=>by
  have h:x=s:=by simpa using h
  subst h;show t.count false+(Nd.map (·.count false)).sum<x.count false+(Nd.map (·.count false)).sum;omega
 | x::Nd,k+1,s,t,h,hc=>by
  have:=V0 (Nd:=Nd) (k:=k) (by simpa using h) hc;show x.count false+Kn (Nd.set k t)<x.count false+Kn Nd;omega
structure Sw (G:List Aa)(many:Nat)(Nd:Nds):Prop where
 len:Nd.length=G.length
 row:FV many Nd
 low:∀(k:Nat) (b:Aa),G[k]? =some b->LeB (A6 Nd k) (Db Nd many b)
theorem NA {G:List Aa}{many:Nat}(hE:∀b∈G,∀e∈b.qb.to,e.block.toNat<G.length):Sw G many (Ym G.length (Ym many false)):=by
 have hrow:FV many (Ym G.length (Ym many false)):=λs hs=>by rw [(List.mem_replicate.1 hs).2,Yq]
 refine⟨Yq,hrow,λk b hb=> ?_⟩;have hk:=(Yc.1 hb).1
 have e:A6 (Ym G.length (Ym many false)) k=Ym many false:=by
  unfold A6;rw [Yad,if_pos hk];rfl
 rw [e];refine ⟨by rw [Yq,Ld hrow (λ e he=>by rw [Yq];exact hE b (Ya hb) e he)],λi hi=> ?_⟩;rw [Yad] at hi;split at hi <;> cases hi
theorem Sx {G:List Aa}{many:Nat}{Nd:Nds}{k:Nat}{b:Aa}(hE:∀b∈G,∀e∈b.qb.to,e.block.toNat<G.length)(h:Sw G many Nd)(hb:G[k]? =some b)(hne:Db Nd many b≠A6 Nd k):Sw G many (Nd.set k (Db Nd many b))/\Kn (Nd.set k (Db Nd many b))<Kn Nd:=by
 have hk:=(Yc.1 hb).1;have hlen:=h.len;obtain ⟨s,hs⟩:=Ab Nd k (by omega);have hsd:A6 Nd k=s:=by unfold A6;rw [hs];rfl
 have hlow:=h.low k b hb;have hbE:=hE b (Ya hb);have hnl:=Ld h.row (b:=b) (λ e he=>by rw [hlen];exact hbE e he)
 have hrow:FV many (Nd.set k (Db Nd many b)):=λx hx=>by
  rcases List.mem_or_eq_of_mem_set hx with hx | rfl
  .exact h.row x hx
  exact hnl
 have hat:∀j,A6 (Nd.set k (Db Nd many b)) j=if j=k then Db Nd many b else A6 Nd j:=λj=>by
  unfold A6;rw [Yr]
  by_cases e:k=j
  .rw [if_pos e,if_pos (by omega),if_pos e.symm];rfl
  rw [if_neg e,if_neg (λ q=>e q.symm)]
 have hle:LeN Nd (Nd.set k (Db Nd many b)):=⟨(Yu ..).symm,λj=>by
  rw [hat];split
  .rename_i e;rw [e];exact hlow
  exact .refl _⟩
 refine⟨⟨by rw [Yu];exact hlen,hrow,λj c hc=> ?_⟩,?_⟩
 .have hm:=Abi h.row hrow hle (b:=c) (λ e he=>by rw [hlen];exact hE c (Ya hc) e he);rw [hat];split
  .rename_i e;subst e;rw [hb] at hc;injection hc with hc;subst hc;exact hm
  exact(h.low j c hc).trans hm
 rw [hsd] at hne hlow;rcases (Abj hlow).2 with e | e
 .exact absurd e.symm hne
 exact V0 hs e
abbrev Env:=Int->Option Int
def CY (e:Env)(v x:Int):Env:=λy=>if y=v then some x else e y
structure BSt where
 env:Env
 nx:Int
 params:List Int
 ins:List AQ
def stP (s:BSt)(v:Int):BSt:=⟨CY s.env v s.nx,s.nx+1,s.params++ [s.nx],s.ins⟩
def stI (s:BSt)(v:Int)(is:Bool):BSt:=if (is&& !(s.env v).isSome)=true then ⟨CY s.env v s.nx,s.nx+1,s.params,s.ins++ [⟨s.nx,0,0,[]⟩]⟩ else s
def stQ (s:BSt)(v:Int)(is:Bool):BSt:=if is=true then stP s v else s
def Cq (f:BSt->Int->Bool->BSt):Nat->List Bool->BSt->BSt
 | _,[],s=>s
 | j,x::l,s=>Cq f (j+1) l (f s j x)
def C8 (nx:Int):BSt:=⟨λ _=>none,nx,[],[]⟩
def LX (params:List Int)(nd:List Bool)(nx:Int):BSt:=Cq stI 0 nd (params.foldl stP (C8 nx))
def Ux (nd:List Bool)(nx:Int):BSt:=Cq stQ 0 nd (C8 nx)
def Au (G:List Aa)(k:Nat):Aa:=G[k]?.getD default
def Cg (inn:List (List Int))(k:Nat):List Int:=inn[k]?.getD []
def Cr (G:List Aa)(inn:List (List Int))(Nd:Nds)(ends:Nat->Env)(k:Nat)(nx:Int):BSt:=
 if k=0 then LX (Au G 0).params (A6 Nd 0) nx
 else if (Cg inn k).length=1 then ⟨ends ((Cg inn k)[0]?.getD 0).toNat,nx,[],[]⟩
 else Ux (A6 Nd k) nx
def EF (e:Env)(l:List Int):List Int:=l.map λa=>(e a).getD 0
def stB (s:BSt)(i:AQ):BSt:=
 if i.op=100 then { s with env:=CY s.env i.to ((EF s.env i.args)[0]?.getD 0) }
 else ⟨CY s.env i.to s.nx,s.nx+1,s.params,s.ins++ [⟨s.nx,i.op,i.n,EF s.env i.args⟩]⟩
def Cz (G:List Aa)(inn:List (List Int))(Nd:Nds)(ends:Nat->Env)(k:Nat)(nx:Int):BSt:=(Au G k).ins.foldl stB (Cr G inn Nd ends k nx)
def GA (t:BG)(e:Env):BG:=⟨t.kind,if t.kind≠1/\t.kind≠4 then (e t.arg).getD 0 else 0,t.n,t.cases,[]⟩
def Abk (t:BG)(s:BSt):Aa:=⟨s.params,s.ins,GA t s.env⟩
def Bc (inn:List (List Int))(Nd:Nds)(env:Env)(e:Am):Am:=⟨e.block,if 1<(Cg inn e.block.toNat).length then ndArgs env 0 (A6 Nd e.block.toNat) else []⟩
where
 ndArgs (env:Env):Nat->List Bool->List Int
  | _,[]=> []
  | j,x::l=>(if x=true then [(env j).getD 0] else [])++ndArgs env (j+1) l
theorem OJ {b:Aa}(h:b.qb.kind=0):skT b=⟨4,0,3,[],[]⟩:=if_pos h
theorem Jc {b:Aa}(h:¬b.qb.kind=0):skT b=⟨b.qb.kind,0,b.qb.n,b.qb.cases,b.qb.to⟩:=if_neg h
theorem Uy {k:Nat}{b:Aa}:(skB k b).params= []:=by
 unfold skB;split <;> rfl
theorem Abl {k:Nat}{b:Aa}:(dB (skB k b)).map (·.1)= []\/(dB (skB k b)).map (·.1)= [(k:Int)]:=by
 unfold skB;split
 .exact .inr rfl
 exact .inl rfl
theorem V1:∀(l:List Aa) (m:Nat) (c:Int),(∀x∈keys (Bg c (skL m l)),(m:Int)<=x/\x<m+l.length)/\(keys (Bg c (skL m l))).Nodup
 | [],m,c=>⟨(λ x hx=>by cases hx),List.nodup_nil⟩
 | b::l,m,c=>by
  obtain⟨h1,h2⟩:=V1 l (m+1) c;rw [Pa] at h1 h2 ⊢;rw [skL,Yak,Yf];rcases Abl (k:=m) (b:=b) with e | e
  .rw [e,Yab];refine ⟨λ x hx=> ?_,h2⟩;have:=h1 x hx;omega
  rw [e,List.singleton_append];refine ⟨λ x hx=> ?_,Yy.2 ⟨λ hx=> ?_,h2⟩⟩
  .rcases Ye.1 hx with rfl | hx
   .omega
   have:=h1 x hx;omega
  have:=h1 _ hx;omega
theorem V2:∀(l:List Aa) (m:Nat),CW (skL m l)<=l.length
 | [],m=>Ybh _
 | b::l,m=>by
  rw [skL,CW,Yf];have h1:=V2 l (m+1)
  have h2:(skB m b).ins.length<=1:=by
   unfold skB;split
   .exact Ybh _
   exact Ybg _
  omega
theorem V3 {f:Ai}{k:Nat}{c:Aa}(h:(skF f).qa[k]? =some c):∃b,f.qa[k]? =some b/\c=skB k b:=by
 have hk:=(Yc.1 h).1;rw [IY] at hk;obtain ⟨b,hb⟩:=Ab f.qa k (by omega);rw [Md hb] at h;injection h with h;exact ⟨b,hb,h.symm⟩
theorem LJ (f:Ai)(k:Int):AI (skF f).qa k= []:=by
 unfold AI
 cases h:(skF f).qa[k.toNat]? with
 | none=>rfl
 | some c=>
  obtain⟨b,_,rfl⟩:=V3 h;exact Uy
section
variable {f:Ai}(h:B6 f=0)
include h
theorem Uz {k:Nat}{b:Aa}(hb:f.qa[k]? =some b){e:Am}(he:e∈b.qb.to):1<=e.block/\e.block<f.qa.length/\e.args= []:=by
 have hM:=CX h;obtain ⟨e1,e2,e3⟩:=(CN (hM.block k b hb).qb).edges e he;obtain ⟨c,hc⟩:=Ab f.qa e.block.toNat (by omega);have hp:=(hM.block _ c hc).params (by omega);rw [Br hc,hp] at e3;exact ⟨e1,e2,Yaq.1 e3⟩
theorem Abm {k:Nat}{b:Aa}(hb:f.qa[k]? =some b):HX (skF f).qa (skT b)=0:=by
 have hM:=CX h;have hE:=CN (hM.block k b hb).qb;have hs:=hE.shape
 by_cases h0:b.qb.kind=0
 .rw [OJ h0];rfl
 rw [Jc h0]
 have hs2:Dh ⟨b.qb.kind,0,b.qb.n,b.qb.cases,b.qb.to⟩=true:=by
  unfold Dh at hs ⊢;dsimp only at hs ⊢;rw [if_neg h0] at hs ⊢;split at hs
  .rename_i h1;rw [if_pos h1];simp only [Bool.and_eq_true,decide_eq_true_eq] at hs ⊢;exact ⟨⟨⟨hs.1.1.1,trivial⟩,hs.1.2⟩,hs.2⟩
  rename_i h1;rw [if_neg h1];split at hs
  .rename_i h2;rw [if_pos h2];exact hs
  rename_i h2;rw [if_neg h2];split at hs
  .rename_i h3;rw [if_pos h3];exact hs
  rename_i h3;rw [if_neg h3];split at hs
  .rename_i h4;rw [if_pos h4];simp only [Bool.and_eq_true,decide_eq_true_eq] at hs ⊢;exact ⟨⟨hs.1.1,trivial⟩,hs.2⟩
  cases hs
 unfold HX;rw [if_neg (by rw [hs2];decide)];dsimp only;rw [if_neg (by have:=hE.many;omega),if_neg (λ hn=>by have h9:=hE.trap hn.1;rw [C0.2 ⟨h9.1,h9.2⟩] at hn;exact absurd hn.2 (by decide)),if_neg (λ hn=>hn hE.cases)];refine Gu λe he=> ?_;obtain ⟨e1,e2,e3⟩:=Uz h hb he;rw [IY,LJ,e3];exact ⟨e1,e2,rfl⟩
theorem Ado {k:Nat}{b:Aa}(hb:f.qa[k]? =some b)(h1:(skT b).kind≠1)(h4:(skT b).kind≠4):(skT b).kind=2\/(skT b).kind=3:=by
 have hs:=(CN (Abm h hb)).shape
 have h0:(skT b).kind≠0:=by
  intro e
  by_cases h0:b.qb.kind=0
  .rw [OJ h0] at e;cases e
  rw [Jc h0] at e;exact h0 e
 unfold Dh at hs;rw [if_neg h0,if_neg h1] at hs;split at hs
 .rename_i h2;exact .inl h2
 split at hs
 .rename_i h3;exact .inr h3
 .first | cases hs | (rw [if_neg h4] at hs;cases hs)
theorem Pq:Bu (skF f)=0:=by
 have hM:=CX h;have h0:=hM.pos;have h1:=hM.len;have hl:=IY f;obtain ⟨k1,k2⟩:=V1 f.qa 0 0;refine DY.2 ⟨by omega,by omega,?_,?_,(show wi (-1) (-1) 1048575=true by decide),⟨λ x hx=> ?_,k2,J7⟩,λc hc=> ?_,?_⟩
 .have:=V2 f.qa 0;show CW (skL 0 f.qa)<=1024;omega
 .rw [LJ];exact Ybg _
 .have:=k1 x hx;exact C0.2 ⟨by omega,by omega⟩
 .obtain ⟨k,hk⟩:=Yk hc;obtain ⟨b,hb,rfl⟩:=V3 hk;have he:=Abm h hb;unfold skB;split
  .rename_i hk;refine ⟨λ i hi=> ?_,?_⟩
   .rw [Yl.1 hi];rfl
   have hs:=CN he
   have:HX (skF f).qa ⟨(skT b).kind,k,(skT b).n,(skT b).cases,(skT b).to⟩=HX (skF f).qa (skT b):=by
    unfold HX Dh;dsimp only;rcases hk with hk | hk
    .rw [hk];rfl
    rw [hk];rfl
   rw [this];exact he
  exact⟨(λ i hi=>by cases hi),he⟩
 refine EE.2 λk c hk=> ?_;obtain ⟨b,hb,rfl⟩:=V3 hk
 have hargs:∀p:Int->Bool,((skT b).to.all λe=>e.args.all p)=true:=λp=>by
  rw [Ys];intro e he
  by_cases h9:b.qb.kind=0
  .rw [OJ h9] at he;cases he
  rw [Jc h9] at he;rw [(Uz h hb he).2.2];rfl
 rw [Ybi]
 by_cases hk2:(skT b).kind=2\/(skT b).kind=3
 .have e:skB k b=⟨[],[⟨k,0,0,[]⟩],⟨(skT b).kind,k,(skT b).n,(skT b).cases,(skT b).to⟩⟩:=if_pos hk2
  have hg:Cc (Bg 0 (skF f).qa) k=some ((k:Int),(1:Int)):=by
   refine(J6 k2).2 (Ih.2 ⟨k,skB k b,hk,(by show(k:Int)=0+k;omega),?_⟩);rw [e];exact Yl.2 rfl
  rw [e];refine ⟨rfl,?_⟩;unfold Fx;dsimp only;rw [if_neg,hargs];intro hn
  have:CP (Bg 0 (skF f).qa) (B8 (skF f).qa) k (1:Nat) (k:Int)=true:=by
   unfold CP;rw [hg];simp
  rw [show ([(⟨k,0,0,[]⟩:AQ)].length:Nat)=1 from rfl,this] at hn;exact absurd hn.2 (by decide)
 have e:skB k b=⟨[],[],skT b⟩:=if_neg hk2;rw [e];refine ⟨rfl,?_⟩;unfold Fx;rw [if_neg,hargs];intro hn;exact hk2 (Ado h hb hn.1.1 hn.1.2)
end
def lv (L:List Bool)(v:Int):Prop:=0<=v/\L[v.toNat]? =some true
theorem V4 {L:List Bool}{a v:Int}(h0:0<=a)(ha:a.toNat<L.length):lv (L.set a.toNat true) v↔v=a\/lv L v:=by
 unfold lv;rw [Yr]
 by_cases e:a.toNat=v.toNat
 .rw [if_pos e,if_pos ha];constructor
  .rintro ⟨h1,_⟩;exact .inl (by omega)
  rintro(rfl | h)
  .exact ⟨h0,rfl⟩
  exact⟨h.1,rfl⟩
 rw [if_neg e];constructor
 .intro h;exact .inr h
 rintro(rfl | h)
 .exact absurd rfl e
 exact h
theorem Adp {L:List Bool}{a v:Int}(h0:0<=a):lv (L.set a.toNat false) v↔v≠a/\lv L v:=by
 unfold lv;rw [Yr]
 by_cases e:a.toNat=v.toNat
 .rw [if_pos e];constructor
  .rintro ⟨h1,h2⟩;split at h2 <;> cases h2
  rintro⟨h1,h2,h3⟩;exact absurd (show v=a by omega) h1
 rw [if_neg e];exact ⟨λ h=>⟨λ q=>e (by rw [q]),h⟩,λh=>h.2⟩
theorem V5 {many:Nat}{v:Int}:∀ {l:List Int} {L:List Bool},L.length=many->(∀a∈l,0<=a/\a<many)->(lv (Om L l) v↔lv L v\/v∈l)
 | [],L,_,_=>⟨λ h=> .inl h,λh=>h.resolve_right (by simp)⟩
 | a::l,L,hL,ha=>by
  have h1:=ha a (Yb ..);show lv (Om (L.set a.toNat true) l) v↔_;rw [V5 (by rw [Yu];exact hL) λx hx=>ha x (Yd _ hx),V4 h1.1 (by omega),Ye];constructor
  .rintro ((h | h) | h)
   .exact .inr (.inl h)
   .exact .inl h
   exact .inr (.inr h)
  rintro(h | h | h)
  .exact .inl (.inr h)
  .exact .inl (.inl h)
  exact .inr h
theorem QA {many:Nat}{v:Int}{L:List Bool}{i:AQ}(hL:L.length=many)(ht:0<=i.to)(ha:∀a∈i.args,0<=a/\a<many):lv (H0 L i) v↔v≠i.to/\lv L v\/v∈i.args:=by
 unfold H0;rw [V5 (by rw [Yu];exact hL) ha,Adp ht]
theorem QB {many:Nat}{v:Int}{L:List Bool}{t:BG}(hL:L.length=many)(ha:0<=t.arg/\t.arg<many):lv (La t L) v↔lv L v\/(t.kind≠1/\t.kind≠4)/\v=t.arg:=by
 unfold La;split
 .rename_i h;rw [V4 ha.1 (by omega)];constructor
  .rintro (h1 | h1)
   .exact .inr ⟨h,h1⟩
   exact .inl h1
  rintro(h1 | ⟨_,h1⟩)
  .exact .inr h1
  exact .inl h1
 rename_i h;exact ⟨λ h1=> .inl h1,λh1=>h1.resolve_right λh2=>h h2.1⟩
theorem Afc {s t:List Bool}{v:Int}(h:s.length=t.length):lv (orB s t) v↔lv s v\/lv t v:=by
 unfold lv
 by_cases hv:v.toNat<s.length
 .obtain ⟨x,hx⟩:=Ab s v.toNat (by omega);obtain ⟨y,hy⟩:=Ab t v.toNat (by omega);rw [Me hx hy,hx,hy]
  cases x <;> cases y <;> simp
 rw [Yae (by rw [DO h];omega),Yae (l:=s) (by omega),Yae (l:=t) (by omega)];simp
theorem Abn {many:Nat}{Nd:Nds}(h:FV many Nd){v:Int}:∀ {to:List Am} {s:List Bool},s.length=many->(∀e∈to,e.block.toNat<Nd.length)->(lv (orE Nd s to) v↔lv s v\/∃e∈to,lv (A6 Nd e.block.toNat) v)
 | [],s,hs,_=>⟨λ h=> .inl h,λh=>h.resolve_right (by simp)⟩
 | e::to,s,hs,ht=>by
  have hl:=HM h (ht e (Yb ..));show lv (orE Nd (orB s (A6 Nd e.block.toNat)) to) v↔_;rw [Abn h (by rw [DO (by omega)];exact hs) λx hx=>ht x (Yd _ hx),Afc (by omega)];constructor
  .rintro ((h1 | h1) | ⟨x,hx,h1⟩)
   .exact .inl h1
   .exact .inr ⟨e,Yb ..,h1⟩
   exact .inr ⟨x,Yd _ hx,h1⟩
  rintro(h1 | ⟨x,hx,h1⟩)
  .exact .inl (.inl h1)
  rcases Ye.1 hx with rfl | hx
  .exact .inl (.inr h1)
  exact .inr ⟨x,hx,h1⟩
theorem Adq {n:Nat}{v:Int}:¬lv (Ym n false) v:=by
 rintro⟨_,h⟩;rw [Yad] at h;split at h <;> cases h
theorem Abo {many:Nat}{Nd:Nds}(h:FV many Nd){b:Aa}(ht:∀e∈b.qb.to,e.block.toNat<Nd.length){v:Int}:lv (Su Nd many b) v↔∃e∈b.qb.to,lv (A6 Nd e.block.toNat) v:=by
 unfold Su;rw [Abn h Yq ht];exact ⟨λ h1=>h1.resolve_left Adq, .inr⟩
structure V6 (many:Nat)(b:Aa):Prop where
 arg:0<=b.qb.arg/\b.qb.arg<many
 to:∀i∈b.ins,0<=i.to/\i.to<many
 args:∀i∈b.ins,∀a∈i.args,0<=a/\a<many
 one:∀i∈b.ins,i.op=100->i.args.length=1
def LA (Nd:Nds)(many:Nat)(b:Aa)(j:Nat):List Bool:=(b.ins.drop j).reverse.foldl H0 (La b.qb (Su Nd many b))
theorem UA {Nd:Nds}{many:Nat}{b:Aa}:LA Nd many b b.ins.length=La b.qb (Su Nd many b):=by
 unfold LA;rw [List.drop_length];rfl
theorem QC {Nd:Nds}{many:Nat}{b:Aa}{j:Nat}{i:AQ}(h:b.ins[j]? =some i):LA Nd many b j=H0 (LA Nd many b (j+1)) i:=by
 unfold LA;rw [Ag h,List.reverse_cons,Yav];rfl
theorem UB {Nd:Nds}{many:Nat}(h:FV many Nd){b:Aa}(ht:∀e∈b.qb.to,e.block.toNat<Nd.length)(j:Nat):(LA Nd many b j).length=many:=by
 unfold LA;rw [Lb,Nz];exact IZ h Yq ht
structure Has (q:Int->Prop)(s:BSt):Prop where
 nx:0<=s.nx
 has:∀v,q v->∃x,s.env v=some x/\0<=x/\x<s.nx
theorem Has.imp {q r:Int->Prop}{s:BSt}(h:Has q s)(hr:∀v,r v->q v):Has r s:=⟨h.nx,λv hv=>h.has v (hr v hv)⟩
theorem Adr {q:Int->Prop}{s:BSt}(h:Has q s)(v:Int)(ps:List Int)(is:List AQ):Has (λ y=>y=v\/q y) ⟨CY s.env v s.nx,s.nx+1,ps,is⟩:=by
 have h0:=h.nx;refine ⟨by show 0<=s.nx+1;omega,λy hy=> ?_⟩;show ∃x,CY s.env v s.nx y=some x/\0<=x/\x<s.nx+1;unfold CY
 by_cases e:y=v
 .rw [if_pos e];exact ⟨_,rfl,h0,by omega⟩
 rw [if_neg e];obtain ⟨x,h1,h2,h3⟩:=h.has y (hy.resolve_left e);exact ⟨x,h1,h2,by omega⟩
def EV (s:BSt):Prop:=0<=s.nx/\∀v x,s.env v=some x->0<=x/\x<s.nx
theorem Le {s:BSt}(h:EV s)(v:Int)(ps:List Int)(is:List AQ):EV ⟨CY s.env v s.nx,s.nx+1,ps,is⟩:=by
 obtain⟨h0,h1⟩:=h;refine ⟨by show 0<=s.nx+1;omega,λy x hy=> ?_⟩;show 0<=x/\x<s.nx+1;have hy:CY s.env v s.nx y=some x:=hy;unfold CY at hy;split at hy
 .injection hy with hy;omega
 have:=h1 y x hy;omega
theorem NB {s:BSt}{v x y:Int}(h:(s.env y).isSome=true):(CY s.env v x y).isSome=true:=by
 unfold CY;split
 .rfl
 exact h
theorem Afd:∀ {l:List Int} {s:BSt},EV s->EV (l.foldl stP s)/\∀v,(v∈l\/(s.env v).isSome=true)->((l.foldl stP s).env v).isSome=true
 | [],s,h=>⟨h,λv hv=>hv.resolve_left (by simp)⟩
 | a::l,s,h=>by
  obtain⟨h1,h2⟩:=Afd (l:=l) (Le h a (s.params++ [s.nx]) s.ins);refine ⟨h1,λv hv=>h2 v ?_⟩;rcases hv with hv | hv
  .rcases Ye.1 hv with rfl | hv
   .right;show (CY s.env v s.nx v).isSome=true;unfold CY;rw [if_pos rfl];rfl
   exact .inl hv
  exact .inr (NB hv)
theorem Afe {f:BSt->Int->Bool->BSt}(hf:∀s v x,EV s->EV (f s v x)/\(∀y,(s.env y).isSome=true->((f s v x).env y).isSome=true)/\(x=true->((f s v x).env v).isSome=true)):∀ {l:List Bool} {j:Nat} {s:BSt},EV s->EV (Cq f j l s)/\∀y:Int,((s.env y).isSome=true\/(j:Int)<=y/\l[(y - j).toNat]? =some true)->((Cq f j l s).env y).isSome=true
 | [],j,s,h=>⟨h,λy hy=>hy.resolve_right λh2=>by simp at h2⟩
 | x::l,j,s,h=>by
  obtain⟨g1,g2,g3⟩:=hf s j x h;obtain ⟨h1,h2⟩:=Afe hf (l:=l) (j:=j+1) g1;rw [Cq];refine ⟨h1,λy hy=>h2 y ?_⟩;rcases hy with hy | ⟨hy,h3⟩
  .exact .inl (g2 y hy)
  by_cases e:y=j
  .subst e;rw [Int.sub_self] at h3;have h3:x=true:=by simpa using h3
   exact .inl (g3 h3)
  refine .inr ⟨by omega,?_⟩;rw [show (y - (j:Int)).toNat=(y - ((j+1:Nat):Int)).toNat+1 by omega] at h3;simpa using h3
theorem AgV (s:BSt)(v:Int)(x:Bool)(h:EV s):EV (stI s v x)/\(∀y,(s.env y).isSome=true->((stI s v x).env y).isSome=true)/\(x=true->((stI s v x).env v).isSome=true):=by
 unfold stI;split
 .refine ⟨Le h v _ _,λy hy=>NB hy,λ_=> ?_⟩;show (CY s.env v s.nx v).isSome=true;unfold CY;rw [if_pos rfl];rfl
 rename_i hc;refine ⟨h,λy hy=>hy,λhx=> ?_⟩;subst hx
 cases he:(s.env v).isSome with
 | true=>rfl
 | false=>rw [he] at hc;exact absurd rfl hc
theorem AgW (s:BSt)(v:Int)(x:Bool)(h:EV s):EV (stQ s v x)/\(∀y,(s.env y).isSome=true->((stQ s v x).env y).isSome=true)/\(x=true->((stQ s v x).env v).isSome=true):=by
 unfold stQ;split
 .refine ⟨Le h v _ _,λy hy=>NB hy,λ_=> ?_⟩;show (CY s.env v s.nx v).isSome=true;unfold CY;rw [if_pos rfl];rfl
 rename_i hc;exact ⟨h,λy hy=>hy,λhx=>absurd hx hc⟩
theorem Iw {nx:Int}(h:0<=nx):EV (C8 nx):=⟨h,λv x hv=>by cases hv⟩
theorem Abp {q:Int->Prop}{s:BSt}(h:EV s)(hq:∀v,q v->(s.env v).isSome=true):Has q s:=⟨h.1,λv hv=>by
 cases he:s.env v with
 | none=>have:=hq v hv;rw [he] at this;cases this
 | some x=>exact⟨x,rfl,h.2 v x he⟩⟩
theorem Sy {nd:List Bool}{nx:Int}(h:0<=nx):Has (lv nd) (Ux nd nx):=by
 obtain⟨h1,h2⟩:=Afe AgW (l:=nd) (j:=0) (Iw h);refine Abp h1 λv hv=>h2 v (.inr ⟨hv.1,?_⟩);rw [show (v - ((0:Nat):Int)).toNat=v.toNat by omega];exact hv.2
theorem Abq {params:List Int}{nd:List Bool}{nx:Int}(h:0<=nx):Has (λ v=>v∈params\/lv nd v) (LX params nd nx):=by
 obtain⟨g1,g2⟩:=Afd (l:=params) (Iw h);obtain ⟨h1,h2⟩:=Afe AgV (l:=nd) (j:=0) g1;refine Abp h1 λv hv=>h2 v ?_;rcases hv with hv | hv
 .exact .inl (g2 v (.inl hv))
 refine .inr ⟨hv.1,?_⟩;rw [show (v - ((0:Nat):Int)).toNat=v.toNat by omega];exact hv.2
theorem Agn {many:Nat}{L:List Bool}{i:AQ}{s:BSt}(hL:L.length=many)(ht:0<=i.to)(ha:∀a∈i.args,0<=a/\a<many)(h1:i.op=100->i.args.length=1)(h:Has (lv (H0 L i)) s):Has (lv L) (stB s i):=by
 have hl:=λv=>QA (v:=v) hL ht ha;unfold stB;split
 .rename_i ho;obtain ⟨a,hia⟩:=Yaf.1 (h1 ho);obtain ⟨x,hx,hx1,hx2⟩:=h.has a ((hl a).2 (.inr (by rw [hia];exact Yl.2 rfl)));refine ⟨h.nx,λv hv=> ?_⟩;show ∃y,CY s.env i.to _ v=some y/\0<=y/\y<s.nx;unfold CY
  by_cases e:v=i.to
  .rw [if_pos e,hia];refine ⟨x,?_,hx1,hx2⟩;show some ((s.env a).getD 0)=some x;rw [hx];rfl
  rw [if_neg e];exact h.has v ((hl v).2 (.inl ⟨e,hv⟩))
 have h2:=Adr h i.to s.params (s.ins++ [⟨s.nx,i.op,i.n,EF s.env i.args⟩]);refine h2.imp λv hv=> ?_
 by_cases e:v=i.to
 .exact .inl e
 exact .inr ((hl v).2 (.inl ⟨e,hv⟩))
def Ko (b:Aa)(s:BSt)(j:Nat):BSt:=(b.ins.take j).foldl stB s
theorem XM {b:Aa}{s:BSt}:Ko b s 0=s:=rfl
theorem Lf {b:Aa}{s:BSt}{j:Nat}{i:AQ}(h:b.ins[j]? =some i):Ko b s (j+1)=stB (Ko b s j) i:=by
 unfold Ko;rw [AD h,Yav];rfl
theorem NC {b:Aa}{s:BSt}:Ko b s b.ins.length=b.ins.foldl stB s:=by
 unfold Ko;rw [Yat (Ybh _)]
theorem UC {many:Nat}{Nd:Nds}(hr:FV many Nd){b:Aa}(hb:V6 many b)(ht:∀e∈b.qb.to,e.block.toNat<Nd.length){s:BSt}(h:Has (lv (Db Nd many b)) s):∀ {j:Nat},j<=b.ins.length->Has (lv (LA Nd many b j)) (Ko b s j)
 | 0,_=>h
 | j+1,hj=>by
  obtain⟨i,hi⟩:=Ab b.ins j (by omega);have him:=Ya hi;have h1:=UC hr hb ht h (j:=j) (by omega);rw [QC hi] at h1;rw [Lf hi];exact Agn (UB hr ht _) (hb.to i him).1 (hb.args i him) (hb.one i him) h1
theorem Qb (s:BSt)(i:AQ):∃l,(stB s i).ins=s.ins++l:=by
 unfold stB;split
 .exact ⟨[],(Yo _).symm⟩
 exact⟨_,rfl⟩
theorem Pr:∀(l:List AQ) (s:BSt),∃m,(l.foldl stB s).ins=s.ins++m
 | [],s=>⟨[],(Yo _).symm⟩
 | i::l,s=>by
  obtain⟨m,hm⟩:=Pr l (stB s i);obtain ⟨n,hn⟩:=Qb s i;rw [Yp,hm,hn,Yj];exact ⟨_,rfl⟩
theorem Kp:∀(l:List AQ) (s:BSt),(l.foldl stB s).params=s.params
 | [],s=>rfl
 | i::l,s=>by
  rw [Yp,Kp l];unfold stB;split <;> rfl
theorem Sz:∀(l:List AQ) (s:BSt),s.nx<=(l.foldl stB s).nx
 | [],s=>Ybo _
 | i::l,s=>by
  rw [Yp];refine Ybq ?_ (Sz l _);unfold stB;split
  .exact Ybo _
  show s.nx<=s.nx+1;omega
theorem SA (b:Aa)(s:BSt){j:Nat}(hj:j<=b.ins.length):∃l,(b.ins.foldl stB s).ins=(Ko b s j).ins++l:=by
 have h:b.ins.foldl stB s=(b.ins.drop j).foldl stB (Ko b s j):=by
  unfold Ko;rw [<- Yav,Yas]
 rw [h];exact Pr _ _
structure WSt where
 nx:Int
 nxs:Nat->Int
 ends:Nat->Env
 mid:Nat->Aa
def Jh (G:List Aa)(inn:List (List Int))(Nd:Nds)(s:WSt)(k:Nat):WSt:=
 ⟨(Cz G inn Nd s.ends k s.nx).nx,λj=>if j=k then s.nx else s.nxs j,λj=>if j=k then (Cz G inn Nd s.ends k s.nx).env else s.ends j,λj=>if j=k then Abk (Au G k).qb (Cz G inn Nd s.ends k s.nx) else s.mid j⟩
def UD:WSt:=⟨0,λ_=>0,λ_ _=>none,λ_=>default⟩
def Ago (G:List Aa)(inn:List (List Int))(Nd:Nds)(order:List Nat):WSt:=order.foldl (Jh G inn Nd) UD
theorem SB {G:List Aa}{inn:List (List Int)}{Nd:Nds}{ends ends':Nat->Env}{k:Nat}{nx:Int}(h:k≠0->∀p,Cg inn k= [p]->ends p.toNat=ends' p.toNat):Cr G inn Nd ends k nx=Cr G inn Nd ends' k nx:=by
 unfold Cr
 by_cases h0:k=0
 .rw [if_pos h0,if_pos h0]
 rw [if_neg h0,if_neg h0]
 by_cases h1:(Cg inn k).length=1
 .rw [if_pos h1,if_pos h1];obtain ⟨p,hp⟩:=Yaf.1 h1;rw [hp];show (⟨ends p.toNat,nx,[],[]⟩:BSt)=⟨ends' p.toNat,nx,[],[]⟩;rw [h h0 p hp]
 rw [if_neg h1,if_neg h1]
theorem ND {G:List Aa}{inn:List (List Int)}{Nd:Nds}{ends ends':Nat->Env}{k:Nat}{nx:Int}(h:k≠0->∀p,Cg inn k= [p]->ends p.toNat=ends' p.toNat):Cz G inn Nd ends k nx=Cz G inn Nd ends' k nx:=by
 unfold Cz;rw [SB h]
theorem SC:∀(l:List Int) (s:BSt),s.nx<=(l.foldl stP s).nx
 | [],s=>Ybo _
 | v::l,s=>Ybq (by show s.nx<=s.nx+1;omega) (SC l (stP s v))
theorem NE {f:BSt->Int->Bool->BSt}(hf:∀s v x,s.nx<=(f s v x).nx):∀(l:List Bool) (j:Nat) (s:BSt),s.nx<=(Cq f j l s).nx
 | [],j,s=>Ybo _
 | x::l,j,s=>Ybq (hf s j x) (NE hf l (j+1) _)
theorem Aff (s:BSt)(v:Int)(x:Bool):s.nx<=(stI s v x).nx:=by
 unfold stI;split
 .show s.nx<=s.nx+1;omega
 exact Ybo _
theorem Afg (s:BSt)(v:Int)(x:Bool):s.nx<=(stQ s v x).nx:=by
 unfold stQ;split
 .show s.nx<=s.nx+1;omega
 exact Ybo _
theorem SD (G:List Aa)(inn:List (List Int))(Nd:Nds)(ends:Nat->Env)(k:Nat)(nx:Int):nx<=(Cr G inn Nd ends k nx).nx:=by
 unfold Cr;split
 .exact Ybq (SC _ (C8 nx)) (NE Aff _ _ _)
 split
 .exact Ybo _
 exact NE Afg _ _ (C8 nx)
theorem V7 (G:List Aa)(inn:List (List Int))(Nd:Nds)(ends:Nat->Env)(k:Nat)(nx:Int):nx<=(Cz G inn Nd ends k nx).nx:=Ybq (SD ..) (Sz _ _)
structure UE (G:List Aa)(inn:List (List Int))(Nd:Nds)(done:List Nat)(s:WSt):Prop where
 nx:0<=s.nx
 low:∀k∈done,0<=s.nxs k
 le:∀k∈done,(Cz G inn Nd s.ends k (s.nxs k)).nx<=s.nx
 ends:∀k∈done,s.ends k=(Cz G inn Nd s.ends k (s.nxs k)).env
 mid:∀k∈done,s.mid k=Abk (Au G k).qb (Cz G inn Nd s.ends k (s.nxs k))
 par:∀k∈done,k≠0->∀p,Cg inn k= [p]->p.toNat∈done/\(Cz G inn Nd s.ends p.toNat (s.nxs p.toNat)).nx<=s.nxs k
theorem UF {G:List Aa}{inn:List (List Int)}{Nd:Nds}:UE G inn Nd [] UD:=⟨Ybo _,(λ k hk=>by cases hk),(λ k hk=>by cases hk),(λ k hk=>by cases hk),(λ k hk=>by cases hk),(λ k hk=>by cases hk)⟩
theorem XN {G:List Aa}{inn:List (List Int)}{Nd:Nds}{done:List Nat}{s:WSt}(h:UE G inn Nd done s){k:Nat}(hk:k∉done)(hp:k≠0->∀p,Cg inn k= [p]->p.toNat∈done):UE G inn Nd (done++ [k]) (Jh G inn Nd s k):=by
 have hxo:∀j∈done,(Jh G inn Nd s k).nxs j=s.nxs j:=λj hj=>if_neg (show ¬j=k from λe=>hk (e ▸ hj));have hxk:(Jh G inn Nd s k).nxs k=s.nx:=if_pos rfl;have hne:∀j∈done,j≠k:=λj hj e=>hk (e ▸ hj);have hends:∀j∈done,(Jh G inn Nd s k).ends j=s.ends j:=λj hj=>if_neg (hne j hj);have hold:∀j∈done,∀nx,Cz G inn Nd (Jh G inn Nd s k).ends j nx=Cz G inn Nd s.ends j nx:=λj hj nx=>ND λh0 p hpj=>hends _ (h.par j hj h0 p hpj).1;have hnew:∀nx,Cz G inn Nd (Jh G inn Nd s k).ends k nx=Cz G inn Nd s.ends k nx:=λnx=>ND λh0 p hpj=>hends _ (hp h0 p hpj);have hnx:=V7 G inn Nd s.ends k s.nx;have hn0:=h.nx;have hm:∀j,j∈done++ [k]->j∈done\/j=k:=λj hj=>(Yv.1 hj).imp id Yl.1;refine ⟨by show 0<=(Cz G inn Nd s.ends k s.nx).nx;omega,λj hj=> ?_,λj hj=> ?_,λj hj=> ?_,λj hj=> ?_,λj hj h0 p hpj=> ?_⟩
 .rcases hm j hj with hj | rfl
  .rw [hxo j hj];exact h.low j hj
  rw [hxk];exact hn0
 .rcases hm j hj with hj | rfl
  .rw [hxo j hj,hold j hj];have:=h.le j hj;show _<=(Cz G inn Nd s.ends k s.nx).nx;omega
  rw [hxk,hnew];exact Ybo _
 .rcases hm j hj with hj | rfl
  .rw [hxo j hj,hold j hj,hends j hj];exact h.ends j hj
  rw [hxk,hnew];exact if_pos rfl
 .rcases hm j hj with hj | rfl
  .rw [hxo j hj,hold j hj];exact (if_neg (hne j hj)).trans (h.mid j hj)
  rw [hxk,hnew];exact if_pos rfl
 rcases hm j hj with hj | rfl
 .obtain ⟨h1,h2⟩:=h.par j hj h0 p hpj;refine ⟨Yag _ h1,?_⟩;rw [hxo j hj,hxo _ h1,hold _ h1];exact h2
 have h1:=hp h0 p hpj;refine ⟨Yag _ h1,?_⟩;rw [hxk,hxo _ h1,hold _ h1];exact h.le _ h1
theorem SE {G:List Aa}{inn:List (List Int)}{Nd:Nds}:∀ {rest done:List Nat} {s:WSt},UE G inn Nd done s->(done++rest).Nodup->(∀(d:List Nat) (k:Nat) (r:List Nat),done++rest=d++k::r->k≠0->∀p,Cg inn k= [p]->p.toNat∈d)->UE G inn Nd (done++rest) (rest.foldl (Jh G inn Nd) s)
 | [],done,s,h,_,_=>by
  rw [Yo];exact h
 | k::rest,done,s,h,hn,hp=>by
  have hk:k∉done:=λhk=>(Yah.1 hn).2.2 k hk k (Yb ..) rfl;have h1:=XN h hk (hp done k rest rfl);have e:done++k::rest=(done++ [k])++rest:=by rw [Yj];rfl
  rw [e] at hn hp ⊢;exact SE h1 hn hp
theorem Agp {bs:List Aa}(hE:∀b∈bs,∀e∈b.qb.to,1<=e.block/\e.block<bs.length){order:List Nat}(ho:Dx bs order)(G:List Aa)(Nd:Nds):UE G (CV bs) Nd order (Ago G (CV bs) Nd order):=by
 have h:=SE (G:=G) (inn:=CV bs) (Nd:=Nd) (rest:=order) (done:= []) UF (by rw [Yab];exact ho.nodup) ?_
 .rw [Yab] at h;exact h
 intro d k r hd h0 p hpk;rw [Yab] at hd;have hj:order[d.length]? =some k:=by rw [hd,Yx (Ybh _),Ybk];rfl
 obtain⟨i,q,hi,hq,he⟩:=ho.par _ k hj h0;have hm:(q:Int)∈Cg (CV bs) k:=(IS hE).2 ⟨q,rfl,he⟩;rw [hpk] at hm;have e:(q:Int)=p:=Yl.1 hm;rw [<- e,Ybp];rw [hd,Yac hi] at hq;exact Ya hq
def Agq (u:Ao):Ai:=u.fns[u.main.toNat]?.getD default
def frU (u:Ao):Int:=Ay (Agq u).qa
theorem Afh {u:Ao}(h:Cm u=0):∀f∈u.fns,Bu f=0:=by
 unfold Cm at h;split at h
 .cases h
 split at h
 .cases h
 split at h
 .cases h
 split at h
 .rename_i hn;exact absurd h hn
 rename_i hn;exact C4 (Decidable.not_not.1 hn)
theorem Do (k:Int)(v:Val)(x:Int):∀m:Cu,AN (CM m k v) x=if k=x then v else AN m x
 | []=>by
  show(if k=x then v else AN [] x)=_;rfl
 | (j,a)::m=>by
  rw [CM]
  by_cases hj:j=k
  .subst hj;rw [if_pos rfl,AN,AN]
   by_cases hx:j=x
   .rw [if_pos hx,if_pos hx]
   rw [if_neg hx,if_neg hx,if_neg hx]
  rw [if_neg hj,AN,Do k v x m,AN]
  by_cases hx:j=x
  .rw [if_pos hx,if_neg (by omega),if_pos hx]
  rw [if_neg hx,if_neg hx]
def Ps (q:Int->Prop)(m m':Cu):Prop:=∀x,q x->AN m' x=AN m x
theorem Ps.put {q:Int->Prop}{m m':Cu}(h:Ps q m m')(k:Int)(v:Val):Ps q (CM m k v) (CM m' k v):=λx hx=>by
 rw [Do,Do,h x hx]
theorem Ps.take {q:Int->Prop}{m m':Cu}(h:Ps q m m'){l:List Int}(hl:∀a∈l,q a):AG m' l=AG m l:=Yap λa ha=>h a (hl a ha)
def inB (u:Ao)(f:Ar):Prop:=f.fn=u.main/\f.block=0
open Classical in
noncomputable def shF (u:Ao)(f:Ar):Int:=if inB u f then 1 else 0
def okX (u:Ao)(f:Ar)(x:Int):Prop:=f.fn=u.main->x≠frU u
structure FR (u:Ao)(f f':Ar):Prop where
 fn:f'.fn=f.fn
 block:f'.block=f.block
 to:f'.to=f.to
 at_:f'.at_=f.at_+shF u f
 qc:Ps (okX u f) f.qc f'.qc
inductive SR (u:Ao):List Ar->List Ar->Prop where
 | nil:SR u [] []
 | cons {f f':Ar} {fs fs':List Ar}:FR u f f'->SR u fs fs'->SR u (f::fs) (f'::fs')
inductive PR (u:Ao):List Ar->List Ar->Prop where
 | mk {f:Ar} {fs fs':List Ar}:inB u f->f.at_=0->SR u fs fs'->PR u (f::fs) (f::fs')
section
variable {u:Ao}{w:Int}(hu:Cm u=0)
include hu
end
def skP (f:Ai):Ai:=Bp (skF f)
def grT (f:Ai)(b:Aa):Aa:=Ce b ((skT b).to.map λe=>⟨gI (atF (skF f)) e.block,e.args⟩)
def Aj (f:Ai):List Aa:=(B9 (skF f)).map λk=>grT f (f.qa[k.toNat]?.getD default)
def C2 (f:Ai):List (List Int):=CV (skP f).qa
def Bl (f:Ai):List Nat:=AJ (skP f).qa
def WG (f:Ai)(Nd:Nds):WSt:=Ago (Aj f) (C2 f) Nd (Bl f)
def UG (f:Ai)(Nd:Nds)(k:Nat):Aa:=Ce ((WG f Nd).mid k) ((Au (Aj f) k).qb.to.map (Bc (C2 f) Nd ((WG f Nd).ends k)))
def Dp (f:Ai)(Nd:Nds):Ai:=⟨f.name,(Yz (Aj f).length).map (UG f Nd)⟩
def FF (f:Ai)(Nd:Nds)(i:Nat):BSt:=Cr (Aj f) (C2 f) Nd (WG f Nd).ends i ((WG f Nd).nxs i)
def stG (f:Ai)(Nd:Nds)(i j:Nat):BSt:=Ko (Au (Aj f) i) (FF f Nd i) j
structure UH (f:Ai)(many:Nat)(Nd:Nds):Prop where
 mle:many<=4096
 vars:∀b∈f.qa,V6 many b
 need:Lc (Aj f) (Bl f) many Nd
section
variable {f:Ai}(h:B6 f=0)
include h
theorem Hp:Dx (skF f).qa (AJ (skF f).qa):=Dj (Bf (Pq h)).pos (Bf (Pq h)).edges
theorem QD:Bu (skP f)=0:=RW (Pq h)
theorem Ge:∀b∈(skP f).qa,∀e∈b.qb.to,1<=e.block/\e.block<(skP f).qa.length:=(Bf (QD h)).edges
theorem EG:Dx (skP f).qa (Bl f):=Dj (Bf (QD h)).pos (Ge h)
omit h in
theorem C3:(Aj f).length=(skP f).qa.length:=by
 unfold Aj skP;rw [Pc,Yh]
theorem Ix {v:Nat}(hv:v∈AJ (skF f).qa){b:Aa}(hb:f.qa[v]? =some b):(Aj f)[rk (skF f) v]? =some (grT f b)/\(skP f).qa[rk (skF f) v]? =some (reB (atF (skF f)) (skB v b)):=by
 have ho:=Hp h;refine ⟨?_,Ik ho hv (Md hb)⟩;have h1:=(Ij ho hv).2;unfold Aj;rw [Yn,Ho ho,Yn,h1];show some (grT f (f.qa[((v:Int)).toNat]?.getD default))=_;rw [Ybp,hb];rfl
theorem NF {i:Nat}(hi:i<(Aj f).length):∃v b,v∈AJ (skF f).qa/\rk (skF f) v=i/\f.qa[v]? =some b/\(Aj f)[i]? =some (grT f b)/\(skP f).qa[i]? =some (reB (atF (skF f)) (skB v b)):=by
 rw [C3] at hi;obtain ⟨c,hc⟩:=Ab (skP f).qa i (by omega);obtain ⟨v,c2,hv,hr,hc2,_⟩:=Il (Hp h) hc;obtain ⟨b,hb,rfl⟩:=V3 hc2;obtain ⟨h1,h2⟩:=Ix h hv hb;rw [hr] at h1 h2;exact ⟨v,b,hv,hr,hb,h1,h2⟩
omit h in
theorem Aer {at_:List Int}{k:Nat}{b:Aa}:(reB at_ (skB k b)).qb.to=(skT b).to.map λe=>⟨gI at_ e.block,e.args⟩:=by
 show((skB k b).qb.to.map _)=_;rw [Abe]
omit h in
theorem UI {b:Aa}:(grT f b).qb.to=(skT b).to.map λe=>⟨gI (atF (skF f)) e.block,e.args⟩:=rfl
theorem HN (i:Nat):Gr (Aj f) i=Gr (skP f).qa i:=by
 by_cases hi:i<(Aj f).length
 .obtain ⟨v,b,_,_,_,h1,h2⟩:=NF h hi;rw [Bz h1,Bz h2,Aer];rfl
 unfold Gr;rw [Yae (by omega),Yae (by rw [<- C3];omega)]
theorem GU:∀b∈Aj f,∀e∈b.qb.to,1<=e.block/\e.block<(Aj f).length:=λb hb e he=>by
 obtain⟨i,hi⟩:=Yk hb;have h1:=HN h i;rw [Bz hi] at h1;have hl:=(Yc.1 hi).1;obtain ⟨c,hc⟩:=Ab (skP f).qa i (by rw [C3] at hl;omega);rw [Bz hc] at h1;rw [C3];exact Ge h c (Ya hc) e (by rw [<- h1];exact he)
omit h in
theorem GB {i:Nat}{b:Aa}(hi:(Aj f)[i]? =some b):Au (Aj f) i=b:=by
 unfold Au;rw [hi];rfl
theorem EH {i:Nat}(hi:i<(Aj f).length):i∈Bl f:=by
 have hz:=XL (Pq h);have ho:=EG h
 have h1:(B9 (skP f)).length=(Bl f).length:=by
  unfold B9;rw [(List.mergeSort_perm _ _).length_eq];unfold If;rw [Yh];rfl
 have h2:(Bl f).length=(skP f).qa.length:=h1.symm.trans hz;refine Classical.byContradiction λhn=> ?_
 have h3:=EQ (l:=i::Bl f) (n:=(skP f).qa.length) (Yy.2 ⟨hn,ho.nodup⟩) λx hx=>by
  rcases Ye.1 hx with rfl | hx
  .rw [<- C3];exact hi
  exact ho.lt x hx
 rw [Yf] at h3;omega
variable {many:Nat}{Nd:Nds}(hE:UH f many Nd)
include hE
theorem E9:∀b∈Aj f,V6 many b:=λb hb=>by
 obtain⟨i,hi⟩:=Yk hb;obtain ⟨v,c,_,_,hc,h1,_⟩:=NF h (Yc.1 hi).1;rw [hi] at h1;injection h1 with h1;subst h1;obtain ⟨a,b,c,d⟩:=hE.vars c (Ya hc);exact ⟨a,b,c,d⟩
omit h in
theorem Fs:FV many Nd:=hE.need.row
theorem Kq {b:Aa}(hb:b∈Aj f):∀e∈b.qb.to,e.block.toNat<Nd.length:=λe he=>by
 have:=GU h b hb e he;rw [hE.need.len];omega
theorem UJ {i:Nat}{b:Aa}(hi:(Aj f)[i]? =some b):A6 Nd i=Db Nd many b:=by
 have h1:=hE.need.fix i (EH h (Yc.1 hi).1) b hi;unfold A6;rw [h1];rfl
theorem SF:UE (Aj f) (C2 f) Nd (Bl f) (WG f Nd):=Agp (Ge h) (EG h) (Aj f) Nd
theorem QE (i:Nat):Cz (Aj f) (C2 f) Nd (WG f Nd).ends i ((WG f Nd).nxs i)=stG f Nd i (Au (Aj f) i).ins.length:=by
 unfold Cz stG;rw [NC];rfl
theorem Abr {i:Nat}{p:Int}:p∈Cg (C2 f) i↔∃q:Nat,p=q/\Edge (Aj f) q i:=by
 have h1:=IS (Ge h) (t:=i) (x:=p);unfold Cg C2;rw [h1];unfold Edge;exact ⟨λ ⟨q,a,b⟩=>⟨q,a,by rw [HN h];exact b⟩,λ⟨q,a,b⟩=>⟨q,a,by rw [<- HN h];exact b⟩⟩
theorem V8:∀(n j i:Nat),j<n->(Bl f)[j]? =some i->Has (lv (A6 Nd i)) (FF f Nd i)
 | 0,j,i,hj,_=>absurd hj (by omega)
 | n+1,j,i,hj,hi=>by
  have hw:=SF h hE;have ho:=EG h;have him:=Ya hi;have hx0:=hw.low i him;unfold FF Cr
  by_cases h0:i=0
  .rw [if_pos h0,h0];exact (Abq (by rw [<- h0];exact hx0)).imp λv hv=> .inr hv
  rw [if_neg h0]
  by_cases h1:(Cg (C2 f) i).length=1
  .rw [if_pos h1];obtain ⟨p,hp⟩:=Yaf.1 h1;obtain ⟨hpd,hpn⟩:=hw.par i him h0 p hp;obtain ⟨j2,q,hj2,hq,he⟩:=ho.par j i hi h0;have hqi:(q:Int)∈Cg (C2 f) i:=(IS (Ge h)).2 ⟨q,rfl,he⟩;rw [hp] at hqi;have e:p=q:=(Yl.1 hqi).symm;subst e;rw [Ybp] at hpd hpn;have hB:=V8 n j2 q (by omega) hq;obtain ⟨b,hb⟩:=Ab (Aj f) q (by have:=ho.lt q hpd;rw [C3];omega);have hbm:=Ya hb;have hlt:=Kq h hE hbm;rw [UJ h hE hb] at hB;have hF:=UC (Fs hE) (E9 h hE b hbm) hlt hB (Ybh _)
   have hs:Ko b (FF f Nd q) b.ins.length=Cz (Aj f) (C2 f) Nd (WG f Nd).ends q ((WG f Nd).nxs q):=by
    rw [QE h hE,GB hb];unfold stG;rw [GB hb]
   rw [hs] at hF;rw [hp];show Has (lv (A6 Nd i)) ⟨(WG f Nd).ends ((q:Int)).toNat,(WG f Nd).nxs i,[],[]⟩;rw [Ybp]
   have he2:∃x∈b.qb.to,x.block.toNat=i:=by
    obtain⟨x,hx,hxi⟩:=he;rw [<- HN h,Bz hb] at hx;exact ⟨x,hx,hxi⟩
   obtain⟨x,hx,hxi⟩:=he2;refine ⟨hx0,λv hv=> ?_⟩
   have hv2:lv (LA Nd many b b.ins.length) v:=by
    rw [UA];refine (QB (IZ (Fs hE) Yq hlt) (E9 h hE b hbm).arg).2 (.inl ?_);exact (Abo (Fs hE) hlt).2 ⟨x,hx,by rw [hxi];exact hv⟩
   obtain⟨y,hy,hy1,hy2⟩:=hF.has v hv2;refine ⟨y,?_,hy1,by show y<(WG f Nd).nxs i;omega⟩;show (WG f Nd).ends q v=some y;rw [hw.ends q hpd];exact hy
  rw [if_neg h1];exact Sy hx0
theorem Aes {i:Nat}{b:Aa}(hi:(Aj f)[i]? =some b){j:Nat}(hj:j<=b.ins.length):Has (lv (LA Nd many b j)) (stG f Nd i j):=by
 obtain⟨n,hn⟩:=Yk (EH h (Yc.1 hi).1);have hB:=V8 h hE (n+1) n i (by omega) hn;have hbm:=Ya hi;rw [UJ h hE hi] at hB;unfold stG;rw [GB hi];exact UC (Fs hE) (E9 h hE b hbm) (Kq h hE hbm) hB hj
theorem Mg {i:Nat}{b:Aa}(hi:(Aj f)[i]? =some b):(Dp f Nd).qa[i]? =some ⟨(FF f Nd i).params,(stG f Nd i b.ins.length).ins,⟨b.qb.kind,(GA b.qb (stG f Nd i b.ins.length).env).arg,b.qb.n,b.qb.cases,b.qb.to.map (Bc (C2 f) Nd (stG f Nd i b.ins.length).env)⟩⟩:=by
 have hil:=(Yc.1 hi).1;have hio:=EH h hil;have hw:=SF h hE;have hb:=QE h hE (i:=i);rw [GB hi] at hb;show ((Yz (Aj f).length).map (UG f Nd))[i]? =_;rw [Yn,Yba hil];show some (Ce ((WG f Nd).mid i) ((Au (Aj f) i).qb.to.map (Bc (C2 f) Nd ((WG f Nd).ends i))))=_;rw [hw.mid i hio,hw.ends i hio,hb,GB hi]
 have hp:(stG f Nd i b.ins.length).params=(FF f Nd i).params:=by
  rw [<- hb];exact Kp _ _
 unfold Ce Abk GA;rw [hp]
end
def Rv (s:BSt)(m m':Cu):Prop:=∀v x,s.env v=some x->AN m' x=AN m v
theorem Afi {s:BSt}{m m':Cu}(h:Rv s m m')(ha:EV s)(v:Int)(a:Val)(ps:List Int)(is:List AQ):Rv ⟨CY s.env v s.nx,s.nx+1,ps,is⟩ (CM m v a) (CM m' s.nx a):=λy x hy=>by
 have hy:CY s.env v s.nx y=some x:=hy;unfold CY at hy;rw [Do,Do]
 by_cases e:y=v
 .rw [if_pos e] at hy;injection hy with hy;rw [if_pos hy,if_pos e.symm]
 rw [if_neg e] at hy;have:=(ha.2 y x hy).2;rw [if_neg (by omega),if_neg (λ q=>e q.symm)];exact h y x hy
theorem V9 {s:BSt}{m m':Cu}(h:Rv s m m')(ha:EV s){v:Int}{a:Val}(hv:a=AN m v)(ps:List Int)(is:List AQ):Rv ⟨CY s.env v s.nx,s.nx+1,ps,is⟩ m (CM m' s.nx a):=λy x hy=>by
 have hy:CY s.env v s.nx y=some x:=hy;unfold CY at hy;rw [Do]
 by_cases e:y=v
 .rw [if_pos e] at hy;injection hy with hy;rw [if_pos hy,hv,e]
 rw [if_neg e] at hy;have:=(ha.2 y x hy).2;rw [if_neg (by omega)];exact h y x hy
theorem Agr:∀ {l:List Int} {s:BSt} {m m':Cu} {as:List Val},EV s->Rv s m m'->as.length=l.length->∃Q,(l.foldl stP s).params=s.params++Q/\Q.length=l.length/\(∀x∈Q,s.nx<=x)/\Rv (l.foldl stP s) (Cd m l as) (Cd m' Q as)
 | [],s,m,m',as,_,h,hl=>⟨[],(Yo _).symm,rfl,(λ x hx=>by cases hx),by cases as <;> first | exact h | cases hl⟩
 | v::l,s,m,m',[],_,_,hl=>by cases hl
 | v::l,s,m,m',a::as,ha,h,hl=>by
  obtain⟨Q,h1,h2,h3,h4⟩:=Agr (l:=l) (as:=as) (Le ha v (s.params++ [s.nx]) s.ins) (Afi h ha v a _ _) (by simpa using hl);refine ⟨s.nx::Q,?_,by rw [Yf,Yf,h2],λx hx=> ?_,h4⟩
  .show (l.foldl stP (stP s v)).params=_;have h1:(l.foldl stP (stP s v)).params=(s.params++ [s.nx])++Q:=h1;rw [h1,Yj];rfl
  rcases Ye.1 hx with rfl | hx
  .exact Ybo _
  have h9:s.nx+1<=x:=h3 x hx;omega
def SG (m:Cu):Nat->List Bool->List Val
 | _,[]=> []
 | j,x::l=>(if x=true then [AN m j] else [])++SG m (j+1) l
theorem Afj {m:Cu}:∀ {l:List Bool} {j:Nat} {s:BSt} {m':Cu},EV s->Rv s m m'->∃Q,(Cq stQ j l s).params=s.params++Q/\Rv (Cq stQ j l s) m (Cd m' Q (SG m j l))
 | [],j,s,m',_,h=>⟨[],(Yo _).symm,h⟩
 | x::l,j,s,m',ha,h=>by
  rw [Cq,SG]
  cases x with
  | false=>exact Afj (l:=l) (j:=j+1) ha h
  | true=>
   obtain⟨Q,h1,h2⟩:=Afj (l:=l) (j:=j+1) (Le ha j (s.params++ [s.nx]) s.ins) (V9 h ha (v:=(j:Int)) rfl _ _);refine ⟨s.nx::Q,?_,h2⟩;have h1:(Cq stQ (j+1) l (stQ s j true)).params=(s.params++ [s.nx])++Q:=h1;rw [h1,Yj];rfl
theorem Wa {m m':Cu}{env:Env}:∀ {l:List Bool} {j:Nat},(∀i:Nat,l[i]? =some true->AN m' ((env ((j+i:Nat):Int)).getD 0)=AN m ((j+i:Nat):Int))->AG m' (Bc.ndArgs env j l)=SG m j l
 | [],j,_=>rfl
 | x::l,j,h=>by
  rw [Bc.ndArgs,SG]
  have h2:=Wa (l:=l) (j:=j+1) (m:=m) (m':=m') (env:=env) λi hi=>by
   have:=h (i+1) (by simpa using hi)
   rwa [show j+(i+1)=j+1+i by omega] at this
  unfold AG at h2 ⊢;rw [Yaa,h2]
  cases x with
  | false=>rfl
  | true=>
   have h3:=h 0 rfl;rw [Ybj] at h3;show [AN m' ((env (j:Int)).getD 0)]++_= [AN m (j:Int)]++_;rw [h3]
theorem Abs {p:Ao}{f':Ar}{fs':List Ar}{M:AE}{d:Int}{c:Aa}{x:Int}(hc:Aw p f'.fn f'.block=c)(h0:0<=f'.at_)(hi:c.ins[f'.at_.toNat]? =some ⟨x,0,0,[]⟩):
  As p (AO d (wst (f'::fs') M))=AO d (wst ({ f' with at_:=f'.at_+1,qc:=CM f'.qc x Val.zero }::fs') M):=by
 have hl:=(Yc.1 hi).1;unfold As;show (if f'.at_=((Aw p f'.fn f'.block).ins.length:Int) then _ else D4 p { f' with at_:=f'.at_+1 } ((Aw p f'.fn f'.block).ins[f'.at_.toNat]?.getD default) fs' (AO d (wst ({ f' with at_:=f'.at_+1 }::fs') M)))=_;rw [hc,if_neg (by omega),hi];show D4 p { f' with at_:=f'.at_+1 } ⟨x,0,0,[]⟩ fs' _=_;unfold D4 AZ;dsimp only;rw [if_neg (by decide),if_neg (by decide),if_pos rfl];rfl
def SH (m:Cu)(l:List Int):Cu:=l.foldl (λ m x=>CM m x Val.zero) m
def zI (x:Int):AQ:=⟨x,0,0,[]⟩
theorem SI {p:Ao}{M:AE}(ho:M.over=false)(hs:M.short=false){c:Aa}{rest:List AQ}:∀(l:List Int) (f':Ar) (fs':List Ar) (d:Int) (N:Nat),Aw p f'.fn f'.block=c->0<=f'.at_->c.ins.drop f'.at_.toNat=l.map zI++rest->(l.length:Int)<=M.left+d->
  goF p (N+l.length) (AO d (wst (f'::fs') M))=goF p N (AO (d - (l.length:Nat)) (wst ({ f' with at_:=f'.at_+(l.length:Nat),qc:=SH f'.qc l }::fs') M))
 | [],f',fs',d,N,_,_,_,_=>by
  show goF p N (AO d (wst (f'::fs') M))=goF p N (AO (d - 0) (wst ({ f' with at_:=f'.at_+0,qc:=f'.qc }::fs') M));rw [Int.sub_zero,Ybr]
 | x::l,f',fs',d,N,hc,h0,hd,hl=>by
  rw [Yf] at hl ⊢
  have hi:c.ins[f'.at_.toNat]? =some (zI x):=by
   have h9:(c.ins.drop f'.at_.toNat)[0]? =some (zI x):=by rw [hd];rfl
   rw [Yai,Ybj] at h9;exact h9
  have hd2:c.ins.drop (f'.at_+1).toNat=l.map zI++rest:=by
   have h9:(c.ins.drop f'.at_.toNat).drop 1=l.map zI++rest:=by rw [hd];rfl
   rw [Ybb] at h9;rw [show (f'.at_+1).toNat=f'.at_.toNat+1 by omega];exact h9
  have hp:Bw 1 (AO d (wst (f'::fs') M))=AO (d - 1) (wst (f'::fs') M):=by
   unfold Bw;rw [if_neg (by show ¬M.left+d<1;omega)];show ({ AO d (wst (f'::fs') M) with left:=M.left+d - 1 }:AE)= { AO d (wst (f'::fs') M) with left:=M.left+(d - 1) };rw [show M.left+d - 1=M.left+(d - 1) by omega]
  rw [show N+(l.length+1)=(N+l.length)+1 by omega,Ef (by exact ho) _ (by rw [hp];exact hs),hp,Abs hc h0 hi];have h:=SI ho hs l { f' with at_:=f'.at_+1,qc:=CM f'.qc x Val.zero } fs' (d - 1) N hc (by show 0<=f'.at_+1;omega) hd2 (by omega);rw [h];have e1:d - 1 - ((l.length:Nat):Int)=d - ((l.length+1:Nat):Int):=by omega
  have e2:f'.at_+1+((l.length:Nat):Int)=f'.at_+((l.length+1:Nat):Int):=by omega
  rw [e1];show goF p N (AO _ (wst ({ f' with at_:=f'.at_+1+((l.length:Nat):Int),qc:=SH f'.qc (x::l) }::fs') M))=_;rw [e2]
theorem Abt {m:Cu}:∀ {l:List Bool} {j:Nat} {s:BSt} {m':Cu},EV s->(∀v x,s.env v=some x->AN m' x=AN m v)->(∀v,s.env v=none->AN m v=Val.zero)->∃Z,(Cq stI j l s).ins=s.ins++Z.map zI/\Z.length<=l.length/\(∀x∈Z,s.nx<=x)/\Rv (Cq stI j l s) m (SH m' Z)
 | [],j,s,m',_,h,_=>⟨[],(Yo _).symm,Ybh _,(λ x hx=>by cases hx),h⟩
 | b::l,j,s,m',ha,h,hz=>by
  rw [Cq]
  by_cases hc:(b&& !(s.env j).isSome)=true
  .have e:stI s j b=⟨CY s.env j s.nx,s.nx+1,s.params,s.ins++ [⟨s.nx,0,0,[]⟩]⟩:=if_pos hc
   have hn:s.env j=none:=by
    cases hx:s.env j with
    | none=>rfl
    | some y=>rw [hx] at hc;simp at hc
   have h2:Rv ⟨CY s.env j s.nx,s.nx+1,s.params,s.ins++ [⟨s.nx,0,0,[]⟩]⟩ m (CM m' s.nx Val.zero):=V9 h ha (hz j hn).symm _ _
   obtain⟨Z,z1,z2,z3,z4⟩:=Abt (l:=l) (j:=j+1) (Le ha j s.params (s.ins++ [⟨s.nx,0,0,[]⟩])) h2 λv hv=>hz v (by
    have hv:CY s.env j s.nx v=none:=hv;unfold CY at hv;split at hv
    .cases hv
    exact hv)
   rw [e];refine ⟨s.nx::Z,?_,by rw [Yf,Yf];omega,λx hx=> ?_,z4⟩
   .rw [z1,Yj];rfl
   rcases Ye.1 hx with rfl | hx
   .exact Ybo _
   have h9:s.nx+1<=x:=z3 x hx;omega
  have e:stI s j b=s:=if_neg hc;rw [e];obtain ⟨Z,z1,z2,z3,z4⟩:=Abt (l:=l) (j:=j+1) ha h hz;exact ⟨Z,z1,by rw [Yf];omega,z3,z4⟩
theorem NG {y:Int}:∀ {ps:List Int} {as:List Val} {m:Cu},y∉ps->AN (Cd m ps as) y=AN m y
 | [],as,m,_=>by cases as <;> rfl
 | p::ps,[],m,_=>rfl
 | p::ps,a::as,m,h=>by
  rw [Cd,NG (λ hn=>h (Yd _ hn)),Do,if_neg (λ e=>h (by rw [e];exact Yb ..))]
theorem NH {v:Int}:∀ {l:List Int} {s:BSt},(l.foldl stP s).env v=none->v∉l/\s.env v=none
 | [],s,h=>⟨by simp,h⟩
 | a::l,s,h=>by
  obtain⟨h1,h2⟩:=NH (l:=l) h;have h2:CY s.env a s.nx v=none:=h2;unfold CY at h2;split at h2
  .cases h2
  rename_i e;exact ⟨by rw [Ye];exact λhn=>hn.elim e h1,h2⟩
theorem SJ {params:List Int}{nd:List Bool}{nx:Int}(h0:0<=nx){as:List Val}(hl:as.length=params.length):∃Z,(LX params nd nx).ins=Z.map zI/\Z.length<=nd.length/\(LX params nd nx).params.length=params.length/\Rv (LX params nd nx) (Cd [] params as) (SH (Cd [] (LX params nd nx).params as) Z):=by
 obtain⟨Q,q1,q2,q3,q4⟩:=Agr (l:=params) (s:=C8 nx) (m:= []) (m':= []) (as:=as) (Iw h0) (λ v x hv=>by cases hv) hl;have q1:(params.foldl stP (C8 nx)).params=Q:=q1
 have hp:(LX params nd nx).params=Q:=by
  rw [<- q1];unfold LX;generalize params.foldl stP (C8 nx)=s
  have:∀(l:List Bool) (j:Nat) (s:BSt),(Cq stI j l s).params=s.params:=by
   intro l
   induction l with
   | nil=>intro j s;rfl
   | cons x l ih=>
    intro j s;rw [Cq,ih];unfold stI;split <;> rfl
  exact this nd 0 s
 have hi:∀(l:List Int) (s:BSt),(l.foldl stP s).ins=s.ins:=by
  intro l
  induction l with
  | nil=>intro s;rfl
  | cons x l ih=>intro s;exact ih (stP s x)
 obtain⟨Z,z1,z2,z3,z4⟩:=Abt (l:=nd) (j:=0) (Afd (l:=params) (Iw h0)).1 q4 λv hv=>by
  obtain⟨g1,_⟩:=NH hv;rw [NG g1];rfl
 refine⟨Z,?_,z2,by rw [hp];exact q2,by rw [hp];exact z4⟩;unfold LX;rw [z1,hi];rfl
abbrev Ghs:=List (Nat×Nds)
def mD (ds:Ghs)(k:Nat):Nat:=(ds[k]?.getD (0,[])).1
def nD (ds:Ghs)(k:Nat):Nds:=(ds[k]?.getD (0,[])).2
structure EnU (p v:Ao)(ds:Ghs):Prop where
 check:Cn p=0
 main:v.main=p.main
 len:v.fns.length=p.fns.length
 fn:∀k f,p.fns[k]? =some f->UH f (mD ds k) (nD ds k)/\v.fns[k]? =some (Dp f (nD ds k))
structure EA (p:Ao)(ds:Ghs)(x x':Ar)(b:Aa)(f:Ai)(i j:Nat):Prop where
 hf:p.fns[x.fn.toNat]? =some f
 fn:x'.fn=x.fn
 b0:0<=x.block
 ord:x.block.toNat∈AJ (skF f).qa
 hb:f.qa[x.block.toNat]? =some b
 hi:rk (skF f) x.block.toNat=i
 blk:x'.block=i
 at_:x.at_=j
 jl:j<=b.ins.length
 at2:x'.at_=((stG f (nD ds x.fn.toNat) i j).ins.length:Nat)
abbrev Abu (ds:Ghs)(k:Nat)(f:Ai)(b:Aa)(j:Nat)(y:Int):Prop:=lv (LA (nD ds k) (mD ds k) (grT f b) j) y
def FE (p:Ao)(ds:Ghs)(x x':Ar):Prop:=∃b f i j,EA p ds x x' b f i j/\∀y,Abu ds x.fn.toNat f b j y->AN x'.qc (((stG f (nD ds x.fn.toNat) i j).env y).getD 0)=AN x.qc y
def FW (p:Ao)(ds:Ghs)(x x':Ar)(to to':Int):Prop:=∃b f i j,EA p ds x x' b f i j/\(stG f (nD ds x.fn.toNat) i j).env to=some to'/\∀y,y≠to->Abu ds x.fn.toNat f b j y->((stG f (nD ds x.fn.toNat) i j).env y).getD 0≠to'/\AN x'.qc (((stG f (nD ds x.fn.toNat) i j).env y).getD 0)=AN x.qc y
inductive EW (p:Ao)(ds:Ghs):Int->Int->List Ar->List Ar->Prop where
 | nil {t t':Int}:EW p ds t t' [] []
 | cons {t t':Int} {g g':Ar} {gs gs':List Ar}:FW p ds g g' t t'->EW p ds g.to g'.to gs gs'->EW p ds t t' (g::gs) (g'::gs')
inductive ES (p:Ao)(ds:Ghs):List Ar->List Ar->Prop where
 | nil:ES p ds [] []
 | cons {x x':Ar} {fs fs':List Ar}:FE p ds x x'->EW p ds x.to x'.to fs fs'->ES p ds (x::fs) (x'::fs')
theorem Abv {p:Ao}{ds:Ghs}{g g':Ar}{t t':Int}(h:FW p ds g g' t t')(a:Val):FE p ds { g with qc:=CM g.qc t a } { g' with qc:=CM g'.qc t' a }:=by
 obtain⟨b,f,i,j,⟨h1,h2,h3,h4,h5,h6,h7,h8,h9,h10⟩,ht,hv⟩:=h;refine ⟨b,f,i,j,⟨h1,h2,h3,h4,h5,h6,h7,h8,h9,h10⟩,λy hy=> ?_⟩;show AN (CM g'.qc t' a) (((stG f (nD ds g.fn.toNat) i j).env y).getD 0)=AN (CM g.qc t a) y;rw [Do,Do]
 by_cases e:y=t
 .subst e;rw [ht,if_pos rfl];exact if_pos rfl
 obtain⟨q1,q2⟩:=hv y e hy;rw [if_neg (λ q=>q1 q.symm),if_neg (λ q=>e q.symm)];exact q2
section
variable {p v:Ao}{ds:Ghs}(hU:EnU p v ds)
include hU
theorem NI {k:Nat}{f:Ai}(hf:p.fns[k]? =some f):B6 f=0:=by
 have h:=hU.check;unfold Cn at h;split at h
 .cases h
 split at h
 .cases h
 split at h
 .cases h
 split at h
 .rename_i h4;exact absurd h h4
 rename_i h4;exact Dt (Classical.not_not.1 h4) f (Ya hf)
theorem Kr {x x':Ar}{b:Aa}{f:Ai}{i j:Nat}(h:EA p ds x x' b f i j):(Aj f)[i]? =some (grT f b)/\Aw v x'.fn x'.block=⟨(FF f (nD ds x.fn.toNat) i).params,(stG f (nD ds x.fn.toNat) i b.ins.length).ins,⟨b.qb.kind,(GA b.qb (stG f (nD ds x.fn.toNat) i b.ins.length).env).arg,b.qb.n,b.qb.cases,(grT f b).qb.to.map (Bc (C2 f) (nD ds x.fn.toNat) (stG f (nD ds x.fn.toNat) i b.ins.length).env)⟩⟩:=by
 have hm:=NI hU h.hf;obtain ⟨hE,hv⟩:=hU.fn _ _ h.hf;have hg:=(Ix hm h.ord h.hb).1;rw [h.hi] at hg;refine ⟨hg,?_⟩;unfold Aw;rw [h.fn,hv,h.blk];show (((Dp f (nD ds x.fn.toNat)).qa)[((i:Nat):Int).toNat]?).getD default=_;rw [Ybp,Mg hm hE hg];rfl
theorem Pt {n:Int}{F:Ai}(hF:p.fns[n.toNat]? =some F):∃b,F.qa[0]? =some b/\AT p n=b.params/\AT v n=(FF F (nD ds n.toNat) 0).params/\FF F (nD ds n.toNat) 0=LX b.params (A6 (nD ds n.toNat) 0) ((WG F (nD ds n.toNat)).nxs 0)/\0∈AJ (skF F).qa/\rk (skF F) 0=0/\(Aj F)[0]? =some (grT F b):=by
 have hm:=NI hU hF;obtain ⟨hE,hv⟩:=hU.fn _ _ hF;have ho:=Hp hm;have h0:=Hn ho;have hr:=IT ho;obtain ⟨b,hb⟩:=Ab F.qa 0 (by have:=(CX hm).pos;omega);have hg:=(Ix hm h0 hb).1;rw [hr] at hg;refine ⟨b,hb,?_,?_,?_,h0,hr,hg⟩
 .unfold AT;rw [hF];show AI F.qa 0=_;unfold AI;rw [show (0:Int).toNat=0 from rfl,hb];rfl
 .unfold AT;rw [hv];show AI (Dp F (nD ds n.toNat)).qa 0=_;unfold AI;rw [show (0:Int).toNat=0 from rfl,Mg hm hE hg];rfl
 unfold FF Cr;rw [if_pos rfl,GB hg];rfl
theorem Pu {n:Int}{F:Ai}(hF:p.fns[n.toNat]? =some F){args:List Val}(hl:args.length=(AT p n).length){to to':Int}{fs fs':List Ar}(hW:EW p ds to to' fs fs'){M:AE}(ho:M.over=false)(hs:M.short=false)(hst:M.stack=Bk p n args to::fs):
  ∃(c:Nat) (S'':List Ar),c<=4096/\(Cm v=0->c<=1024)/\ES p ds M.stack S''/\∀(d:Int) (N:Nat),(c:Int)<=M.left+d->goF v (N+c) (AO d (wst (Bk v n args to'::fs') M))=goF v N (AO (d - (c:Nat)) (wst S'' M)):=by
 have hm:=NI hU hF;obtain ⟨hE,hv⟩:=hU.fn _ _ hF;obtain ⟨b,hb,hp1,hp2,hp3,h0,hr,hg⟩:=Pt hU hF;have hw:=SF hm hE;have hx0:=hw.low 0 (EH hm (Yc.1 hg).1);obtain ⟨Z,z1,z2,z3,z4⟩:=SJ (params:=b.params) (nd:=A6 (nD ds n.toNat) 0) hx0 (as:=args) (by rw [hl,hp1]);rw [<- hp3] at z1 z3 z4
 have hz:Z.length<=4096:=by
  have h1:(A6 (nD ds n.toNat) 0).length=mD ds n.toNat:=HM (Fs hE) (by rw [hE.need.len];exact(Yc.1 hg).1);have:=hE.mle;omega
 have hEA:EA p ds (Bk p n args to) { Bk v n args to' with at_:=(0:Int)+(Z.length:Nat),qc:=SH (Bk v n args to').qc Z } b F 0 0:=by
  refine⟨hF,rfl,Ybo _,h0,hb,hr,rfl,rfl,Ybg _,?_⟩;show (0:Int)+(Z.length:Nat)=((FF F (nD ds n.toNat) 0).ins.length:Nat);rw [z1,Yh];omega
 have hFE:FE p ds (Bk p n args to) { Bk v n args to' with at_:=(0:Int)+(Z.length:Nat),qc:=SH (Bk v n args to').qc Z }:=by
  refine⟨b,F,0,0,hEA,λy hy=> ?_⟩;have hH:=Aes hm hE hg (j:=0) (Ybg _);obtain ⟨z,hz1,_,_⟩:=hH.has y hy;show AN (SH (Cd [] (AT v n) args) Z) (((stG F (nD ds n.toNat) 0 0).env y).getD 0)=AN (Cd [] (AT p n) args) y;rw [hp1,hp2,hz1]
  have hz2:(FF F (nD ds n.toNat) 0).env y=some z:=by
   unfold stG at hz1;exact hz1
  exact z4 y z hz2
 obtain⟨l,hl2⟩:=SA (grT F b) (FF F (nD ds n.toNat) 0) (Ybg _)
 have hfin:(stG F (nD ds n.toNat) 0 b.ins.length).ins=Z.map zI++l:=by
  unfold stG;rw [GB hg];have e:Ko (grT F b) (FF F (nD ds n.toNat) 0) b.ins.length=(grT F b).ins.foldl stB (FF F (nD ds n.toNat) 0):=NC;rw [e,hl2,XM,z1]
 have hz1:Cm v=0->Z.length<=1024:=λh9=>by
  have g1:=(DY.1 (Afh h9 _ (Ya hv))).ins;have g2:=Km (Ya (Mg hm hE hg));have g3:(stG F (nD ds n.toNat) 0 b.ins.length).ins.length<=1024:=Ybl g2 g1;rw [hfin,Yi,Yh] at g3;omega
 refine⟨Z.length,{ Bk v n args to' with at_:=(0:Int)+(Z.length:Nat),qc:=SH (Bk v n args to').qc Z }::fs',hz,hz1,by rw [hst];exact .cons hFE hW,λd N hd=> ?_⟩
 .have hbk:=(Kr hU hEA).2
  exact SI ho hs Z (Bk v n args to') fs' d N (c:=Aw v n 0) rfl (Ybo _) (by
   have h9:Aw v n 0=_:=hbk;rw [h9];show List.drop 0 (stG F (nD ds n.toNat) 0 b.ins.length).ins=_;rw [hfin];rfl) hd
theorem XO {x x':Ar}{b:Aa}{f:Ai}{i:Nat}(h:EA p ds x x' b f i b.ins.length)(hv:∀y,Abu ds x.fn.toNat f b b.ins.length y->AN x'.qc (((stG f (nD ds x.fn.toNat) i b.ins.length).env y).getD 0)=AN x.qc y){e:Am}(he:e∈b.qb.to)(h0:b.qb.kind≠0):
  FE p ds (AM p x e) (AM v x' (Bc (C2 f) (nD ds x.fn.toNat) (stG f (nD ds x.fn.toNat) i b.ins.length).env ⟨gI (atF (skF f)) e.block,e.args⟩)):=by
 have hm:=NI hU h.hf;obtain ⟨hE,hvf⟩:=hU.fn _ _ h.hf;have ho:=Hp hm;obtain ⟨hg,hbk⟩:=Kr hU h;have hbm:=Ya hg;have hlt:=Kq hm hE hbm;obtain ⟨e1,e2,e3⟩:=Uz hm h.hb he
 have hto:(⟨gI (atF (skF f)) e.block,e.args⟩:Am)∈(grT f b).qb.to:=by
  rw [UI,Jc h0];exact Yg.2 ⟨e,he,rfl⟩
 -- the target
 have hedge:Edge (skF f).qa x.block.toNat e.block.toNat:=⟨e,by rw [Bz (Md h.hb),Abe,Jc h0];exact he,rfl⟩;have hto2:=ho.closed _ h.ord _ hedge;obtain ⟨g1,g2⟩:=Ij ho hto2;rw [show ((e.block.toNat:Nat):Int)=e.block by omega] at g1;obtain ⟨t,ht⟩:∃t,t=rk (skF f) e.block.toNat:=⟨_,rfl⟩;rw [<- ht] at g1;obtain ⟨c,hc⟩:=Ab f.qa e.block.toNat (by omega);have hgt:=(Ix hm hto2 hc).1;rw [<- ht] at hgt
 have htne:t≠0:=λq=>by
  have:=Jy ho hto2 (Hn ho) (by rw [IT ho, <- ht,q]);omega
 rw [g1]
 have hpe:(Aw p x.fn e.block).params= []:=by
  unfold Aw;rw [h.hf];show ((f.qa[e.block.toNat]?).getD default).params= [];rw [hc];exact ((CX hm).block _ c hc).params (by omega)
 have hpv:(Aw v x'.fn (t:Int)).params=(FF f (nD ds x.fn.toNat) t).params:=by
  unfold Aw;rw [h.fn,hvf];show ((((Dp f (nD ds x.fn.toNat)).qa)[((t:Nat):Int).toNat]?).getD default).params=_;rw [Ybp,Mg hm hE hgt];rfl
 have hEA:EA p ds (AM p x e) (AM v x' (Bc (C2 f) (nD ds x.fn.toNat) (stG f (nD ds x.fn.toNat) i b.ins.length).env ⟨(t:Int),e.args⟩)) c f t 0:=by
  refine⟨h.hf,h.fn,by show 0<=e.block;omega,hto2,hc,ht.symm,rfl,rfl,Ybg _,?_⟩;show (0:Int)=((FF f (nD ds x.fn.toNat) t).ins.length:Nat);unfold FF Cr;rw [if_neg htne];split
  .rfl
  unfold Ux
  have:∀(l:List Bool) (j:Nat) (s:BSt),(Cq stQ j l s).ins=s.ins:=by
   intro l
   induction l with
   | nil=>intro j s;rfl
   | cons x l ih=>
    intro j s;rw [Cq,ih];unfold stQ;split <;> rfl
  rw [this];rfl
 refine⟨c,f,t,0,hEA,λy hy=> ?_⟩;have hy:lv (LA (nD ds x.fn.toNat) (mD ds x.fn.toNat) (grT f c) 0) y:=hy
 have hyn:lv (A6 (nD ds x.fn.toNat) t) y:=by
  rw [UJ hm hE hgt];exact hy
 -- what is needed there is needed here
 have hback:∀y,lv (A6 (nD ds x.fn.toNat) t) y->AN x'.qc (((stG f (nD ds x.fn.toNat) i b.ins.length).env y).getD 0)=AN x.qc y:=λy hy=>hv y (by
  show lv (LA (nD ds x.fn.toNat) (mD ds x.fn.toNat) (grT f b) (grT f b).ins.length) y;rw [UA];refine (QB (IZ (Fs hE) Yq hlt) (E9 hm hE _ hbm).arg).2 (.inl ?_);exact (Abo (Fs hE) hlt).2 ⟨_,hto,by show lv (A6 _ (gI (atF (skF f)) e.block).toNat) y;rw [g1,Ybp];exact hy⟩)
 have hpi:(i:Int)∈Cg (C2 f) t:=(Abr hm hE).2 ⟨i,rfl,_,by rw [Bz hg];exact hto,by show(gI (atF (skF f)) e.block).toNat=t;rw [g1,Ybp]⟩;show AN (Cd x'.qc (Aw v x'.fn (t:Int)).params (AG x'.qc (if 1<(Cg (C2 f) ((t:Nat):Int).toNat).length then Bc.ndArgs (stG f (nD ds x.fn.toNat) i b.ins.length).env 0 (A6 (nD ds x.fn.toNat) ((t:Nat):Int).toNat) else []))) (((FF f (nD ds x.fn.toNat) t).env y).getD 0)=AN (Cd x.qc (Aw p x.fn e.block).params (AG x.qc e.args)) y;rw [hpe,hpv,Ybp];have hw:=SF hm hE;have hto3:=EH hm (Yc.1 hgt).1;show _=AN x.qc y
 by_cases h1:(Cg (C2 f) t).length=1
 .obtain ⟨q,hq⟩:=Yaf.1 h1;rw [hq] at hpi;have e4:q=i:=(Yl.1 hpi).symm;subst e4;rw [if_neg (by omega)]
  have hbg:FF f (nD ds x.fn.toNat) t=⟨(WG f (nD ds x.fn.toNat)).ends i,(WG f (nD ds x.fn.toNat)).nxs t,[],[]⟩:=by
   unfold FF Cr;rw [if_neg htne,if_pos h1,hq];show (⟨(WG f (nD ds x.fn.toNat)).ends ((i:Int)).toNat,_,_,_⟩:BSt)=_;rw [Ybp]
  rw [hbg];show AN x'.qc (((WG f (nD ds x.fn.toNat)).ends i y).getD 0)=AN x.qc y;rw [hw.ends i (EH hm (Yc.1 hg).1),QE hm hE,GB hg];exact hback y hyn
 have hlen:1<(Cg (C2 f) t).length:=by
  have:=Yaw hpi;omega
 rw [if_pos hlen]
 have hbg:FF f (nD ds x.fn.toNat) t=Ux (A6 (nD ds x.fn.toNat) t) ((WG f (nD ds x.fn.toNat)).nxs t):=by
  unfold FF Cr;rw [if_neg htne,if_neg h1]
 have hx0:=hw.low t hto3;obtain ⟨Q,q1,q2⟩:=Afj (m:=x.qc) (l:=A6 (nD ds x.fn.toNat) t) (j:=0) (m':=x'.qc) (Iw hx0) (λ v x hv=>by cases hv);have q1:(Ux (A6 (nD ds x.fn.toNat) t) ((WG f (nD ds x.fn.toNat)).nxs t)).params=Q:=q1;rw [Wa (m:=x.qc) λn hn=>hback _ ⟨by omega,by rw [show (((0+n:Nat):Int)).toNat=n by omega];exact hn⟩,hbg,q1];obtain ⟨z,hz,_,_⟩:=(Sy (nd:=A6 (nD ds x.fn.toNat) t) hx0).has y hyn;rw [hz];exact q2 y z hz
end
inductive Pv (p v:Ao)(ds:Ghs)(M:AE)(S':List Ar):Prop where
 | copy:As p M=wst (As p M).stack M->ES p ds (As p M).stack S'->Pv p v ds M S'
 | step (S2:List Ar) (c:Nat) (S3:List Ar):c<=4096->(Cm v=0->c<=1024)->(∀d:Int,0<=d->As v (AO d (wst S' M))=AO d (wst S2 (As p M)))->
   ((As p M).over=true\/ES p ds (As p M).stack S3/\∀(d:Int) (N:Nat),(c:Int)<=(As p M).left+d->goF v (N+c) (AO d (wst S2 (As p M)))=goF v N (AO (d - (c:Nat)) (wst S3 (As p M))))->Pv p v ds M S'
section
variable {p v:Ao}{ds:Ghs}(hU:EnU p v ds)
include hU
theorem Ads {x x':Ar}(hF:FE p ds x x'){y:Mv}{c0:Aa}(hc:Aw p x.fn x.block=c0)(h0:0<=x.at_)(hi0:c0.ins[x.at_.toNat]? =some (mvI y)):FE p ds { x with at_:=x.at_+1,qc:=CM x.qc y.1 (AN x.qc y.2) } x':=by
 obtain⟨b,f,i,j,hA,hv⟩:=hF;obtain ⟨hg,hbk⟩:=Kr hU hA;have hm:=NI hU hA.hf;obtain ⟨hE,hvf⟩:=hU.fn _ _ hA.hf;have hgm:=Ya hg
 have eb:Aw p x.fn x.block=b:=by
  unfold Aw;rw [hA.hf];show (f.qa[x.block.toNat]?).getD default=b;rw [hA.hb];rfl
 rw [eb] at hc;subst hc;have hVB:=E9 hm hE _ hgm;have hlt:=Kq hm hE hgm;have hat:=hA.at_;have hi:b.ins[j]? =some (mvI y):=by rw [<- hi0,hat,Ybp]
 have hjl:=(Yc.1 hi).1;have him:=Ya hi;have hi2:(grT f b).ins[j]? =some (mvI y):=hi;have hLs:=QC (Nd:=nD ds x.fn.toNat) (many:=mD ds x.fn.toNat) hi2;have hLl:=UB (many:=mD ds x.fn.toNat) (Fs hE) hlt (j+1)
 have hlv:∀z,lv (LA (nD ds x.fn.toNat) (mD ds x.fn.toNat) (grT f b) j) z↔z≠y.1/\lv (LA (nD ds x.fn.toNat) (mD ds x.fn.toNat) (grT f b) (j+1)) z\/z∈ [y.2]:=λz=>by
  rw [hLs];exact QA hLl (hVB.to _ him).1 (hVB.args _ him)
 have hs3:stG f (nD ds x.fn.toNat) i (j+1)= { stG f (nD ds x.fn.toNat) i j with env:=CY (stG f (nD ds x.fn.toNat) i j).env y.1 (((stG f (nD ds x.fn.toNat) i j).env y.2).getD 0) }:=by
  have e:stG f (nD ds x.fn.toNat) i (j+1)=stB (stG f (nD ds x.fn.toNat) i j) (mvI y):=by
   unfold stG;rw [GB hg];exact Lf hi2
  rw [e];exact if_pos rfl
 refine⟨b,f,i,j+1,⟨hA.hf,hA.fn,hA.b0,hA.ord,hA.hb,hA.hi,hA.blk,by show x.at_+1=((j+1:Nat):Int);omega,by omega,?_⟩,λz hz=> ?_⟩
 .show x'.at_=((stG f (nD ds x.fn.toNat) i (j+1)).ins.length:Nat);rw [hs3];exact hA.at2
 show AN x'.qc (((stG f (nD ds x.fn.toNat) i (j+1)).env z).getD 0)=AN (CM x.qc y.1 (AN x.qc y.2)) z;rw [hs3,Do];show AN x'.qc ((CY (stG f (nD ds x.fn.toNat) i j).env y.1 (((stG f (nD ds x.fn.toNat) i j).env y.2).getD 0) z).getD 0)=_;unfold CY
 by_cases e:z=y.1
 .rw [if_pos e,if_pos e.symm];exact hv y.2 ((hlv y.2).2 (.inr (Yl.2 rfl)))
 rw [if_neg e,if_neg (λ q=>e q.symm)];exact hv z ((hlv z).2 (.inl ⟨e,hz⟩))
theorem Pw {x':Ar}{c0:Aa}{rest:List AQ}:∀(l:List Mv) (x:Ar),FE p ds x x'->Aw p x.fn x.block=c0->0<=x.at_->c0.ins.drop x.at_.toNat=l.map mvI++rest->FE p ds { x with at_:=x.at_+(l.length:Nat),qc:=GK x.qc l } x'
 | [],x,h,_,_,_=>by
  have e:({ x with at_:=x.at_+(([]:List Mv).length:Nat),qc:=GK x.qc [] }:Ar)=x:=by
   show({ x with at_:=x.at_+0 }:Ar)=x;rw [Ybr]
  rw [e];exact h
 | y::l,x,h,hc,h0,hd=>by
  have hi:c0.ins[x.at_.toNat]? =some (mvI y):=by
   have h9:(c0.ins.drop x.at_.toNat)[0]? =some (mvI y):=by rw [hd];rfl
   rw [Yai,Ybj] at h9;exact h9
  have hd2:c0.ins.drop (x.at_+1).toNat=l.map mvI++rest:=by
   have h9:(c0.ins.drop x.at_.toNat).drop 1=l.map mvI++rest:=by rw [hd];rfl
   rw [Ybb] at h9;rw [show (x.at_+1).toNat=x.at_.toNat+1 by omega];exact h9
  have h2:=Pw l _ (Ads hU h hc h0 hi) hc (by show 0<=x.at_+1;omega) hd2
  have e:({ x with at_:=x.at_+((y::l).length:Nat),qc:=GK x.qc (y::l) }:Ar)= { x with at_:=x.at_+1+(l.length:Nat),qc:=GK (CM x.qc y.1 (AN x.qc y.2)) l }:=by
   rw [Yf,show x.at_+((l.length+1:Nat):Int)=x.at_+1+((l.length:Nat):Int) by omega];rfl
  rw [e];exact h2
theorem Adt {M:AE}{S':List Ar}(hl:0<=M.left)(hS:ES p ds M.stack S')(ho:M.over=false)(hs:M.short=false)(hs2:(As p M).short=false)(hl2:0<=(As p M).left):Pv p v ds M S':=by
 have hUok:=(K5 hU.check).u
 -- one step suffices
 have one:∀S2:List Ar,((As p M).over=true\/ES p ds (As p M).stack S2)->(∀d:Int,0<=d->As v (AO d (wst S' M))=AO d (wst S2 (As p M)))->Pv p v ds M S':=λS2 h1 h2=>
  .step S2 0 S2 (Ybg _) (λ _=>Ybg _) h2 (h1.imp id λh1=>⟨h1,λd N _=>by
   rw [Ybj];show _=goF v N (AO (d - 0) _);rw [Int.sub_zero]⟩)
 cases hst:M.stack with
 | nil=>
  rw [hst] at hS
  cases hS
  have e:As p M=M:=by unfold As;rw [hst]
  refine one [] (.inr (by rw [e,hst];exact .nil)) λd _=> ?_;rw [e];rfl
 | cons x fs=>
  rw [hst] at hS
  cases hS with
  | @cons _ x' _ fs' hF hW=>
  obtain⟨b,f,i,j,hA,hv⟩:=hF;obtain ⟨hg,hbk⟩:=Kr hU hA;have hm:=NI hU hA.hf;obtain ⟨hE,hvf⟩:=hU.fn _ _ hA.hf;have hFm:=Ya hA.hf;have hbm:=Ya hA.hb;have hgm:=Ya hg
  have eb:Aw p x.fn x.block=b:=by
   unfold Aw;rw [hA.hf];show (f.qa[x.block.toNat]?).getD default=b;rw [hA.hb];rfl
  have hstep:As p M=if x.at_=(b.ins.length:Int) then Bx p x b.qb fs M else D4 p { x with at_:=x.at_+1 } (b.ins[x.at_.toNat]?.getD default) fs (wst ({ x with at_:=x.at_+1 }::fs) M):=by
   unfold As;rw [hst];dsimp only;rw [eb];rfl
  have hstep2:∀d,As v (AO d (wst (x'::fs') M))=if x'.at_=((stG f (nD ds x.fn.toNat) i b.ins.length).ins.length:Int) then Bx v x' ⟨b.qb.kind,(GA b.qb (stG f (nD ds x.fn.toNat) i b.ins.length).env).arg,b.qb.n,b.qb.cases,(grT f b).qb.to.map (Bc (C2 f) (nD ds x.fn.toNat) (stG f (nD ds x.fn.toNat) i b.ins.length).env)⟩ fs' (AO d (wst (x'::fs') M)) else D4 v { x' with at_:=x'.at_+1 } ((stG f (nD ds x.fn.toNat) i b.ins.length).ins[x'.at_.toNat]?.getD default) fs' (AO d (wst ({ x' with at_:=x'.at_+1 }::fs') M)):=λd=>by
   unfold As;show (if x'.at_=((Aw v x'.fn x'.block).ins.length:Int) then Bx v x' (Aw v x'.fn x'.block).qb fs' _ else D4 v { x' with at_:=x'.at_+1 } ((Aw v x'.fn x'.block).ins[x'.at_.toNat]?.getD default) fs' _)=_;rw [hbk];rfl
  have hVB:=E9 hm hE _ hgm;have hlt:=Kq hm hE hgm
  by_cases h1:x.at_=(b.ins.length:Int)
  .-- the end of a block
   rw [if_pos h1] at hstep;have hj:j=b.ins.length:=by have:=hA.at_;omega
   subst hj
   have hstep2:∀d,As v (AO d (wst (x'::fs') M))=Bx v x' ⟨b.qb.kind,(GA b.qb (stG f (nD ds x.fn.toNat) i b.ins.length).env).arg,b.qb.n,b.qb.cases,(grT f b).qb.to.map (Bc (C2 f) (nD ds x.fn.toNat) (stG f (nD ds x.fn.toNat) i b.ins.length).env)⟩ fs' (AO d (wst (x'::fs') M)):=λd=>by
    rw [hstep2 d,if_pos hA.at2]
   have hT:FO f b.qb:=hUok.qb f hFm b hbm
   have harg:b.qb.kind≠1/\b.qb.kind≠4->AN x'.qc (GA b.qb (stG f (nD ds x.fn.toNat) i b.ins.length).env).arg=AN x.qc b.qb.arg:=λhk=>by
    have e:(GA b.qb (stG f (nD ds x.fn.toNat) i b.ins.length).env).arg=(((stG f (nD ds x.fn.toNat) i b.ins.length).env b.qb.arg).getD 0):=if_pos hk;rw [e];refine hv _ ?_;show lv (LA (nD ds x.fn.toNat) (mD ds x.fn.toNat) (grT f b) (grT f b).ins.length) _;rw [UA];exact (QB (IZ (Fs hE) Yq hlt) hVB.arg).2 (.inr ⟨hk,rfl⟩)
   have go:∀k:Nat,k<b.qb.to.length->b.qb.kind≠0->As p M= { M with stack:=AM p x (BO b.qb k)::fs }->(∀d,As v (AO d (wst (x'::fs') M))= { AO d (wst (x'::fs') M) with stack:=AM v x' (BO ⟨b.qb.kind,(GA b.qb (stG f (nD ds x.fn.toNat) i b.ins.length).env).arg,b.qb.n,b.qb.cases,(grT f b).qb.to.map (Bc (C2 f) (nD ds x.fn.toNat) (stG f (nD ds x.fn.toNat) i b.ins.length).env)⟩ k)::fs' })->Pv p v ds M (x'::fs'):=λk hk k0 he1 he2=>by
    obtain⟨e,he⟩:=Ab b.qb.to k (by omega);have e1:BO b.qb k=e:=by unfold BO;rw [he];rfl
    have e2:BO ⟨b.qb.kind,(GA b.qb (stG f (nD ds x.fn.toNat) i b.ins.length).env).arg,b.qb.n,b.qb.cases,(grT f b).qb.to.map (Bc (C2 f) (nD ds x.fn.toNat) (stG f (nD ds x.fn.toNat) i b.ins.length).env)⟩ k=Bc (C2 f) (nD ds x.fn.toNat) (stG f (nD ds x.fn.toNat) i b.ins.length).env ⟨gI (atF (skF f)) e.block,e.args⟩:=by
     unfold BO;show (((grT f b).qb.to.map _)[k]?).getD default=_;rw [UI,Jc k0,Yn,Yn,he];rfl
    have hFE:=XO hU hA hv (Ya he) k0;rw [e1] at he1;rw [e2] at he2;refine one (AM v x' (Bc (C2 f) (nD ds x.fn.toNat) (stG f (nD ds x.fn.toNat) i b.ins.length).env ⟨gI (atF (skF f)) e.block,e.args⟩)::fs') (.inr ?_) λd _=> ?_
    .rw [he1];exact .cons hFE hW
    rw [he2 d,he1];rfl
   by_cases k4:b.qb.kind=4
   .have e1:As p M=DU b.qb.n 0 M:=by rw [hstep];unfold Bx;rw [if_pos k4]
    refine one (x'::fs') (.inl (by rw [e1];rfl)) λd _=> ?_;rw [hstep2 d,e1];unfold Bx;rw [if_pos k4];rfl
   by_cases k1:b.qb.kind=1
   .refine go 0 (hT.one k1) (by rw [k1];decide) ?_ λd=> ?_
    .rw [hstep];unfold Bx;rw [if_neg k4,if_pos k1]
    rw [hstep2 d];unfold Bx;dsimp only;rw [if_neg k4,if_pos k1]
   have ha:=harg ⟨k1,k4⟩
   by_cases k0:b.qb.kind=0
   .have e1:As p M=FJ x (AN x.qc b.qb.arg) fs M:=by rw [hstep];unfold Bx;rw [if_neg k4,if_neg k1,if_pos k0]
    have e2:∀d,As v (AO d (wst (x'::fs') M))=FJ x' (AN x.qc b.qb.arg) fs' (AO d (wst (x'::fs') M)):=λd=>by
     rw [hstep2 d];unfold Bx;dsimp only;rw [if_neg k4,if_neg k1,if_pos k0,ha]
    cases hW with
    | nil=>
     refine one [] (.inl (by rw [e1];rfl)) λd _=> ?_;rw [e2 d,e1];rfl
    | @cons _ _ g g' gs gs' hgw hgs=>
     refine one ({ g' with qc:=CM g'.qc x'.to (AN x.qc b.qb.arg) }::gs') (.inr (by rw [e1];exact .cons (Abv hgw (AN x.qc b.qb.arg)) hgs)) λd _=> ?_;rw [e2 d,e1];rfl
   by_cases kw:(AN x.qc b.qb.arg).kind≠0
   .have e1:As p M=DU 5 0 M:=by rw [hstep];unfold Bx;rw [if_neg k4,if_neg k1,if_neg k0,if_pos kw]
    refine one (x'::fs') (.inl (by rw [e1];rfl)) λd _=> ?_;rw [hstep2 d,e1];unfold Bx;dsimp only;rw [if_neg k4,if_neg k1,if_neg k0,ha,if_pos kw];rfl
   have hch:=Fc hT (AN x.qc b.qb.arg).n k0 k1 k4;refine go (DK b.qb (AN x.qc b.qb.arg).n).toNat (by omega) k0 ?_ λd=> ?_
   .rw [hstep];unfold Bx;rw [if_neg k4,if_neg k1,if_neg k0,if_neg kw]
   rw [hstep2 d];unfold Bx;dsimp only;rw [if_neg k4,if_neg k1,if_neg k0,ha,if_neg kw];rfl
  .-- an instruction
   rw [if_neg h1] at hstep;have hat:=hA.at_;have hjl:=hA.jl;have hjlt:j<b.ins.length:=by omega
   obtain⟨i0,hi⟩:=Ab b.ins j (by omega);have him:=Ya hi;rw [show x.at_.toNat=j by omega,hi,Option.getD_some] at hstep;have hi2:(grT f b).ins[j]? =some i0:=hi;have hLs:=QC (Nd:=nD ds x.fn.toNat) (many:=mD ds x.fn.toNat) hi2;have hLl:=UB (many:=mD ds x.fn.toNat) (Fs hE) hlt (j+1)
   have hSs:stG f (nD ds x.fn.toNat) i (j+1)=stB (stG f (nD ds x.fn.toNat) i j) i0:=by
    unfold stG;rw [GB hg];exact Lf hi2
   have hlv:∀y,lv (LA (nD ds x.fn.toNat) (mD ds x.fn.toNat) (grT f b) j) y↔y≠i0.to/\lv (LA (nD ds x.fn.toNat) (mD ds x.fn.toNat) (grT f b) (j+1)) y\/y∈i0.args:=λy=>by
    rw [hLs];exact QA hLl (hVB.to i0 him).1 (hVB.args i0 him)
   have hH:=Aes hm hE hg (j:=j) (by show j<=b.ins.length;omega)
   have hargs:AG x'.qc (EF (stG f (nD ds x.fn.toNat) i j).env i0.args)=AG x.qc i0.args:=by
    unfold AG EF;rw [Yaj];exact Yap λa ha=>hv a ((hlv a).2 (.inr ha))
   by_cases oc:i0.op=100
   .-- a copy
    obtain⟨a,ha⟩:=Yaf.1 (hVB.one i0 him oc)
    have hs3:stG f (nD ds x.fn.toNat) i (j+1)= { stG f (nD ds x.fn.toNat) i j with env:=CY (stG f (nD ds x.fn.toNat) i j).env i0.to (((stG f (nD ds x.fn.toNat) i j).env a).getD 0) }:=by
     rw [hSs];unfold stB;rw [if_pos oc,ha];rfl
    have e1:As p M=wst ({ x with at_:=x.at_+1,qc:=CM x.qc i0.to (AN x.qc a) }::fs) M:=by
     rw [hstep];unfold D4 AZ;dsimp only;rw [oc,ha];rfl
    refine .copy (by rw [e1];rfl) ?_;rw [e1];refine .cons ⟨b,f,i,j+1,⟨hA.hf,hA.fn,hA.b0,hA.ord,hA.hb,hA.hi,hA.blk,by show x.at_+1=((j+1:Nat):Int);omega,by omega,?_⟩,λy hy=> ?_⟩ hW
    .show x'.at_=((stG f (nD ds x.fn.toNat) i (j+1)).ins.length:Nat);rw [hs3];exact hA.at2
    show AN x'.qc (((stG f (nD ds x.fn.toNat) i (j+1)).env y).getD 0)=AN (CM x.qc i0.to (AN x.qc a)) y;rw [hs3,Do];show AN x'.qc ((CY (stG f (nD ds x.fn.toNat) i j).env i0.to (((stG f (nD ds x.fn.toNat) i j).env a).getD 0) y).getD 0)=_;unfold CY
    by_cases e:y=i0.to
    .rw [if_pos e,if_pos e.symm];exact hv a ((hlv a).2 (.inr (by rw [ha];exact Yl.2 rfl)))
    rw [if_neg e,if_neg (λ q=>e q.symm)];exact hv y ((hlv y).2 (.inl ⟨e,hy⟩))
   .-- any other instruction
    have hs3:stG f (nD ds x.fn.toNat) i (j+1)=⟨CY (stG f (nD ds x.fn.toNat) i j).env i0.to (stG f (nD ds x.fn.toNat) i j).nx,(stG f (nD ds x.fn.toNat) i j).nx+1,(stG f (nD ds x.fn.toNat) i j).params,(stG f (nD ds x.fn.toNat) i j).ins++ [⟨(stG f (nD ds x.fn.toNat) i j).nx,i0.op,i0.n,EF (stG f (nD ds x.fn.toNat) i j).env i0.args⟩]⟩:=by
     rw [hSs];unfold stB;rw [if_neg oc]
    obtain⟨nx,hnx⟩:∃nx,nx=(stG f (nD ds x.fn.toNat) i j).nx:=⟨_,rfl⟩;obtain ⟨l,hl3⟩:=SA (grT f b) (FF f (nD ds x.fn.toNat) i) (j:=j+1) (by show j+1<=b.ins.length;omega)
    have hfin:(stG f (nD ds x.fn.toNat) i b.ins.length).ins=(stG f (nD ds x.fn.toNat) i (j+1)).ins++l:=by
     unfold stG;rw [GB hg, <- hl3];have e:Ko (grT f b) (FF f (nD ds x.fn.toNat) i) b.ins.length=(grT f b).ins.foldl stB (FF f (nD ds x.fn.toNat) i):=NC;rw [e]
    have hat2:=hA.at2
    have hins:(stG f (nD ds x.fn.toNat) i b.ins.length).ins[x'.at_.toNat]? =some ⟨nx,i0.op,i0.n,EF (stG f (nD ds x.fn.toNat) i j).env i0.args⟩:=by
     rw [hfin,hs3,hnx,show x'.at_.toNat=(stG f (nD ds x.fn.toNat) i j).ins.length by omega];dsimp only;rw [Yj,Yx (Ybh _),Ybk];rfl
    have hne:¬x'.at_=((stG f (nD ds x.fn.toNat) i b.ins.length).ins.length:Int):=by
     have:=(Yc.1 hins).1;omega
    have hstep2:∀d,As v (AO d (wst (x'::fs') M))=D4 v { x' with at_:=x'.at_+1 } ⟨nx,i0.op,i0.n,EF (stG f (nD ds x.fn.toNat) i j).env i0.args⟩ fs' (AO d (wst ({ x' with at_:=x'.at_+1 }::fs') M)):=λd=>by
     rw [hstep2 d,if_neg hne,hins,Option.getD_some]
    have hA1:∀m m':Cu,EA p ds { x with at_:=x.at_+1,qc:=m } { x' with at_:=x'.at_+1,qc:=m' } b f i (j+1):=λm m'=>by
     refine⟨hA.hf,hA.fn,hA.b0,hA.ord,hA.hb,hA.hi,hA.blk,by show x.at_+1=((j+1:Nat):Int);omega,by omega,?_⟩;show x'.at_+1=((stG f (nD ds x.fn.toNat) i (j+1)).ins.length:Nat);rw [hs3];dsimp only;rw [Yi,List.length_singleton];omega
    have hFW:FW p ds { x with at_:=x.at_+1 } { x' with at_:=x'.at_+1 } i0.to nx:=by
     refine⟨b,f,i,j+1,hA1 _ _,?_,λy hy hyl=> ?_⟩
     .show (stG f (nD ds x.fn.toNat) i (j+1)).env i0.to=some nx;rw [hs3,hnx];exact if_pos rfl
     have hyj:=(hlv y).2 (.inl ⟨hy,hyl⟩);obtain ⟨z,hz,_,hz2⟩:=hH.has y hyj
     have e:(stG f (nD ds x.fn.toNat) i (j+1)).env y=(stG f (nD ds x.fn.toNat) i j).env y:=by
      rw [hs3];exact if_neg hy
     show((stG f (nD ds x.fn.toNat) i (j+1)).env y).getD 0≠nx/\AN x'.qc (((stG f (nD ds x.fn.toNat) i (j+1)).env y).getD 0)=AN x.qc y;rw [e];refine ⟨?_,hv y hyj⟩;rw [hz,hnx];show z≠_;omega
    -- a call
    have ent:∀(n:Int) (F:Ai),p.fns[n.toNat]? =some F->(AG x.qc i0.args).length=(AT p n).length->As p M=Dv p n (AG x.qc i0.args) i0.to (wst ({ x with at_:=x.at_+1 }::fs) M)->(∀d,As v (AO d (wst (x'::fs') M))=Dv v n (AG x.qc i0.args) nx (AO d (wst ({ x' with at_:=x'.at_+1 }::fs') M)))->Pv p v ds M (x'::fs'):=λn F hF hlen he1 he2=>by
     have hWW:EW p ds i0.to nx ({ x with at_:=x.at_+1 }::fs) ({ x' with at_:=x'.at_+1 }::fs'):= .cons hFW hW;have ho3:(As p M).over=false:=by rw [he1];exact ho
     obtain⟨c,S3,hc,hc1,hES,hrun⟩:=Pu hU hF hlen hWW (M:=As p M) ho3 hs2 (by rw [he1];rfl);refine .step (Bk v n (AG x.qc i0.args) nx:: { x' with at_:=x'.at_+1 }::fs') c S3 hc hc1 (λ d _=> ?_) (.inr ⟨hES,hrun⟩);rw [he2 d,he1];rfl
    have hIok:=hUok.ins f hFm b hbm i0 him
    by_cases o13:i0.op=13
    .obtain ⟨c0,c1,c2⟩:=hIok.call o13;obtain ⟨F,hF⟩:=Ab p.fns i0.n.toNat (by omega);refine ent i0.n F hF (by unfold AG;rw [Yh];exact c2.symm) ?_ λd=> ?_
     .rw [hstep];unfold D4;dsimp only;rw [if_pos o13]
     rw [hstep2 d];unfold D4;dsimp only;rw [if_pos o13,hargs]
    by_cases o14:i0.op=14
    .have hent:∀n,(AT v n).length=(AT p n).length:=λn=>by
      cases hn:p.fns[n.toNat]? with
      | none=>
       have hn2:v.fns[n.toNat]? =none:=by
        rw [Yar] at hn ⊢;rw [hU.len];exact hn
       unfold AT;rw [hn,hn2]
      | some F=>
       obtain⟨b2,_,q1,q2,q3,_,_,hg0⟩:=Pt hU hn;have hmF:=NI hU hn;have hx0:=(SF hmF (hU.fn _ _ hn).1).low 0 (EH hmF (Yc.1 hg0).1);obtain ⟨_,_,_,z3,_⟩:=SJ (params:=b2.params) (nd:=A6 (nD ds n.toNat) 0) hx0 (as:=b2.params.map λ_=>Val.zero) (Yh ..);rw [q1,q2,q3,z3]
     by_cases hc:(Ah (AG x.qc i0.args) 0).kind=2/\(AT p (Ah (AG x.qc i0.args) 0).n).length=(AG x.qc i0.args).length
     .have hn:1<=(AT p (Ah (AG x.qc i0.args) 0).n).length:=by
       rw [hc.2];unfold AG;rw [Yh];exact hIok.app o14
      cases hF:p.fns[(Ah (AG x.qc i0.args) 0).n.toNat]? with
      | none=>
       unfold AT at hn;rw [hF] at hn;exact absurd hn (by show ¬1<=0;omega)
      | some F=>
       refine ent _ F hF hc.2.symm ?_ λd=> ?_
       .rw [hstep];unfold D4;dsimp only;rw [if_neg o13,if_pos o14,if_pos hc]
       rw [hstep2 d];unfold D4;dsimp only;rw [if_neg o13,if_pos o14,hargs,if_pos (by rw [hent];exact hc)]
     have e1:As p M=DU 5 0 (wst ({ x with at_:=x.at_+1 }::fs) M):=by
      rw [hstep];unfold D4;dsimp only;rw [if_neg o13,if_pos o14,if_neg hc]
     refine one ({ x' with at_:=x'.at_+1 }::fs') (.inl (by rw [e1];rfl)) λd _=> ?_;rw [hstep2 d,e1];unfold D4;dsimp only;rw [if_neg o13,if_pos o14,hargs,if_neg (by rw [hent];exact hc)];rfl
    have e1:=Mb i0 (AG x.qc i0.args) M ({ x with at_:=x.at_+1 }::fs);have e2:=Mb i0 (AG x.qc i0.args) M ({ x' with at_:=x'.at_+1 }::fs');have hex:∀(args:List Val) (M:AE),AZ ⟨nx,i0.op,i0.n,EF (stG f (nD ds x.fn.toNat) i j).env i0.args⟩ args M=AZ i0 args M:=λ_ _=>rfl
    have hP:As p M= { (if (AZ i0 (AG x.qc i0.args) M).2.2≠0 then DU (AZ i0 (AG x.qc i0.args) M).2.2 0 (wst ({ x with at_:=x.at_+1 }::fs) (AZ i0 (AG x.qc i0.args) M).1) else wst ({ x with at_:=x.at_+1 }::fs) (AZ i0 (AG x.qc i0.args) M).1) with stack:= { x with at_:=x.at_+1,qc:=CM x.qc i0.to (AZ i0 (AG x.qc i0.args) M).2.1 }::fs }:=by
     rw [hstep];unfold D4;dsimp only;rw [if_neg o13,if_neg o14,e1]
    have hsx:(AZ i0 (AG x.qc i0.args) M).1.short=false:=by
     rw [hP] at hs2;dsimp only at hs2;split at hs2 <;> exact hs2
    have hlx:0<=(AZ i0 (AG x.qc i0.args) M).1.left:=by
     rw [hP] at hl2;dsimp only at hl2;split at hl2 <;> exact hl2
    refine one ({ x' with at_:=x'.at_+1,qc:=CM x'.qc nx (AZ i0 (AG x.qc i0.args) M).2.1 }::fs') (.inr ?_) λd hd=> ?_
    .rw [hP];exact .cons (Abv hFW _) hW
    have e3:=(Ll i0 (AG x.qc i0.args) (wst ({ x' with at_:=x'.at_+1 }::fs') M) d hs (by rw [e2];exact hsx) (by show 0<=M.left+d;omega)).1 (by rw [e2];show 0<=(AZ i0 (AG x.qc i0.args) M).1.left+d;omega);rw [hstep2 d,hP];unfold D4;dsimp only;rw [if_neg o13,if_neg o14,hargs,hex,e3,e2];dsimp only
    by_cases hx:(AZ i0 (AG x.qc i0.args) M).2.2≠0
    .rw [if_pos hx,if_pos hx];rfl
    rw [if_neg hx,if_neg hx];rfl
end
section
variable {p v:Ao}{ds:Ghs}(hU:EnU p v ds)
include hU
end
theorem I0 (M:AE):AO 0 M=M:=by
 unfold AO;rw [Ybr]
section
variable {u v:Ao}{ds:Ghs}(hu:Cm u=0)(hS:Iu u)(hM:Cn (lvU u)=0)(hU:EnU (lvU u) v ds)(hv:Cm v=0)
include hU hv
theorem JA {M X:AE}{S1 S2 T:List Ar}(hES:ES (lvU u) ds S1 T)(hl:0<=M.left)(ho:M.over=false)(hs:M.short=false)(hs2:X.short=false)(hl2:0<=X.left)(hX:X.left<=M.left)(h:∀d:Int,0<=d->As (lvU u) (AO d (wst S1 M))=AO d (wst S2 X)):
  ∃(k:Nat) (e:Int) (T2:List Ar),k<=1025/\ -1024<=e/\(X.over=true\/ES (lvU u) ds S2 T2)/\∀(d:Int) (N:Nat),1024<=d->goF v (N+k) (AO d (wst T (up1 M)))=goF v N (AO (d+e) (wst T2 X)):=by
 have h0:=h 0 (Ybo _);rw [I0,I0] at h0;rcases Adt hU (M:=wst S1 M) hl hES ho hs (by rw [h0];exact hs2) (by rw [h0];exact hl2) with ⟨h1,h2⟩ | ⟨T1,c,T3,hc,hc1,h1,h2⟩
 .rw [h0] at h1 h2
  have e1:wst T X=wst T M:=by
   have h9:wst T (wst S2 X)=wst T (wst (wst S2 X).stack (wst S1 M)):=congrArg (wst T) h1;exact h9
  refine⟨0,1,T,by omega,by omega, .inr h2,λd N _=> ?_⟩;rw [e1,Ybj];show goF v N ({ wst T M with left:=M.left+1+d }:AE)=goF v N { wst T M with left:=M.left+(d+1) };rw [show M.left+1+d=M.left+(d+1) by omega]
 rw [h0] at h1 h2;have hc1:=hc1 hv;rcases h2 with h2 | ⟨h2,h3⟩
 .refine ⟨1,0,T1,by omega,by omega, .inl h2,λd N hd=> ?_⟩;rw [Ny ho hs (by omega)];have h9:=h1 d (by omega);have h9:As v (AO d (wst T M))=AO d (wst T1 X):=h9;rw [h9,Ybr]
 refine⟨c+1,-(c:Int),T3,by omega,by omega, .inr h2,λd N hd=> ?_⟩;rw [show N+(c+1)=(N+c)+1 by omega,Ny ho hs (by omega)];have h9:As v (AO d (wst T M))=AO d (wst T1 X):=h1 d (by omega);rw [h9];exact h3 d N (by show(c:Int)<=X.left+d;omega)
omit hv in
theorem Px {f':Ar}{fs' T:List Ar}{l:List Mv}{c0:Aa}{rest:List AQ}(h:ES (lvU u) ds (f'::fs') T)(h1:Aw (lvU u) f'.fn f'.block=c0)(h2:0<=f'.at_)(h3:c0.ins.drop f'.at_.toNat=l.map mvI++rest):ES (lvU u) ds ({ f' with at_:=f'.at_+(l.length:Nat),qc:=GK f'.qc l }::fs') T:=by
 cases h with
 | cons hF hW=>exact .cons (Pw hU l f' hF h1 h2 h3) hW
include hu hS hM
theorem JB {M:AE}{S' T:List Ar}(hMv:MOk (Az u) M)(hSL:SL u M.stack S')(hES:ES (lvU u) ds S' T)(ho:M.over=false)(hs:M.short=false)(hs2:(As (Az u) M).short=false)(hl2:0<=(As (Az u) M).left)(h5:¬((As (Az u) M).over=true/\(As (Az u) M).fin=5)):
  ∃(k:Nat) (e:Int) (S'' T2:List Ar),k<=1025/\ -1024<=e/\SL u (As (Az u) M).stack S''/\((As (Az u) M).over=true\/ES (lvU u) ds S'' T2)/\∀(d:Int) (N:Nat),1024<=d->goF v (N+k) (AO d (wst T (up1 M)))=goF v N (AO (d+e) (wst T2 (As (Az u) M))):=by
 have hX:=Fd (Az u) M;obtain ⟨c,S2,hc,_,hSL2,hC⟩:=Abc hu hS hM hMv hSL ho hs hs2 hl2 h5
 cases hC with
 | one h=>
  obtain⟨k,e,T2,a1,a2,a3,a4⟩:=JA hU hv hES hMv.left0 ho hs hs2 hl2 hX h;exact ⟨k,e,_,T2,a1,a2,hSL2,a3,a4⟩
 | @before f' fs' l c0 rest _ e0 h1 h2 h3 h4=>
  subst e0;obtain ⟨k,e,T2,a1,a2,a3,a4⟩:=JA hU hv (Px hU hES h1 h2 h3) hMv.left0 ho hs hs2 hl2 hX λd _=>h4 d;exact ⟨k,e,_,T2,a1,a2,hSL2,a3,a4⟩
 | @after f1 fs1 l c0 rest h1 h2 h3 h4=>
  obtain⟨k,e,T2,a1,a2,a3,a4⟩:=JA hU hv hES hMv.left0 ho hs hs2 hl2 hX h1;exact ⟨k,e,_,T2,a1,a2,hSL2,a3.imp id λh=>Px hU h h2 h3 h4,a4⟩
theorem SK:∀(n:Nat) (M:AE) (d:Int) (S' T:List Ar),M.short=false->M.over=false->On u M->(goF u n M).over=true->(goF u n M).short=false->(goF u n M).fin≠5->SL u M.stack S'->ES (lvU u) ds S' T->2100*M.left+1024<=d->∀N:Nat,2101*M.left+1<=N->∃d' T'',goF v N (AO d (wst T M))=AO d' (wst T'' (goF u n M))
 | 0,M,d,S',T,hs,ho,hg,hov,_,_,_,_,_,_,_=>by
  have hov:M.over=true:=hov;rw [ho] at hov
  cases hov
 | n+1,M,d,S',T,hs,ho,hg,hov,hsh,hfin,hSL,hES,hd,N,hN=>by
  have hUu:=(GX hu).u;have hV:=(GX (Nu hu hS)).u
  cases hp:(Bw 1 M).short with
  | true=>
   rw [Fe ho n hp] at hsh;rw [hp] at hsh
   cases hsh
  | false=>
   obtain⟨e1,hl1⟩:=GY hp;rw [Ef ho n hp,e1] at hov hsh hfin ⊢;have hg2:=I2 hUu hg ho hl1
   have hM1:MOk u { M with left:=M.left - 1 }:=by
    have:=hg.1;exact ⟨this.frames,this.heap,this.out,by show 0<=M.left - 1;omega,by have h9:=this.left;show M.left - 1+(M.stack.length:Int)<=1000001;omega⟩
   have hcap:M.left - 1+(M.stack.length:Int)<=1000000:=by have h9:=hg.1.left;omega
   have hs1:({ M with left:=M.left - 1 }:AE).short=false:=hs;have ho1:({ M with left:=M.left - 1 }:AE).over=false:=ho
   have hup:up1 { M with left:=M.left - 1 }=M:=by
    unfold up1;show ({ M with left:=M.left - 1+1 }:AE)=M;rw [show M.left - 1+1=M.left by omega]
   have hSL1:SL u ({ M with left:=M.left - 1 }:AE).stack S':=hSL;have hcap1:({ M with left:=M.left - 1 }:AE).left+(({ M with left:=M.left - 1 }:AE).stack.length:Int)<=1000000:=hcap;have hl:({ M with left:=M.left - 1 }:AE).left=M.left - 1:=rfl;generalize ({ M with left:=M.left - 1 }:AE)=M1 at hov hsh hfin hg2 hM1 hs1 ho1 hup hSL1 hl hcap1 ⊢
   have hs2:(As u M1).short=false:=by
    cases hx:(As u M1).short with
    | false=>rfl
    | true=>rw [DC (JD hs1 hx),hx] at hsh;cases hsh
   have h5:¬((As u M1).over=true/\(As u M1).fin=5):=λ⟨h8,h9⟩=>by
    rw [DC h8] at hfin;exact hfin h9
   have hl0:=hg2.1.left0;have hl2:=Fd u M1;have hMv:=XK hM1
   have fin:∀(d2:Int) (S3 T3:List Ar) (N2:Nat),SL u (As u M1).stack S3->(As u M1).over=true\/ES (lvU u) ds S3 T3->2100*(As u M1).left+1024<=d2->2101*(As u M1).left+1<=N2->∃d' T'',goF v N2 (AO d2 (wst T3 (As u M1)))=AO d' (wst T'' (goF u n (As u M1))):=λd2 S3 T3 N2 hS3 hE3 hd2 hN2=>by
    cases ho2:(As u M1).over with
    | true=>
     rw [DC ho2,DC (M:=AO d2 (wst T3 (As u M1))) ho2];exact ⟨d2,T3,rfl⟩
    | false=>exact SK n _ d2 S3 T3 hs2 ho2 hg2 hov hsh hfin hS3 (hE3.resolve_left (by rw [ho2];decide)) hd2 N2 hN2
   rw [<- hup];rcases Ut hu hM1 with h1 | ⟨S2,h1,hY1,hY2,hY3,hY4,g,gs,hSg,hpar⟩
   .obtain ⟨k,e,S3,T3,hk,he,hSL3,hE3,hrun⟩:=JB hu hS hM hU hv hMv hSL1 hES ho1 hs1 (by rw [h1];exact hs2) (by rw [h1];exact hl0) (by rw [h1];exact h5);rw [h1] at hSL3 hE3 hrun;obtain ⟨N0,rfl⟩:∃j,N=j+k:=⟨N - k,by omega⟩;rw [hrun d N0 (by omega)];exact fin _ _ _ _ hSL3 hE3 (by omega) (by omega)
   have hZ:MOk (Az u) (As (Az u) M1):=QJ hV hMv hcap1;obtain ⟨k,e,S3,T3,hk,he,hSL3,hE3,hrun⟩:=JB hu hS hM hU hv hMv hSL1 hES ho1 hs1 (by rw [h1];exact hs1) (by rw [h1];show 0<=M1.left;omega) (by rw [h1];intro h9;have h8:M1.over=true:=h9.1;rw [ho1] at h8;cases h8);rw [h1] at hSL3 hE3 hrun hZ;have hE3:=hE3.resolve_left (by show ¬M1.over=true;rw [ho1];decide);have hz:AO 0 (wst S2 M1)=wst S2 M1:=I0 _
   have hst2:As (Az u) (wst S2 M1)=As u M1:=by
    have h9:=hY4 0;rw [hz] at h9;rw [h9,I0]
   obtain⟨k2,e2,S4,T4,hk2,he2,hSL4,hE4,hrun2⟩:=JB hu hS hM hU hv hZ hSL3 hE3 (by exact ho1) (by exact hs1) (by rw [hst2];exact hs2) (by rw [hst2];exact hl0) (by rw [hst2];exact h5);rw [hst2] at hSL4 hE4 hrun2;obtain ⟨N0,rfl⟩:∃j,N=(j+k2)+k:=⟨N - k2 - k,by omega⟩;rw [hrun d (N0+k2) (by omega)]
   have e3:AO (d+e) (wst T3 (wst S2 M1))=AO (d+e - 1) (wst T3 (up1 (wst S2 M1))):=by
    show({ wst T3 M1 with left:=M1.left+(d+e) }:AE)= { wst T3 M1 with left:=M1.left+1+(d+e - 1) };rw [show M1.left+(d+e)=M1.left+1+(d+e - 1) by omega]
   rw [e3,hrun2 (d+e - 1) N0 (by omega)];exact fin _ _ _ _ hSL4 hE4 (by omega) (by omega)
theorem XP (h:(Cj u 1500).2.2=0)(hfin:(Cj u 1500).1.fin≠5):
  (5000*((Cj u 1500).2.1+1)<=1000000->(Cj v 1000000).2.2=0)/\((Cj v 1000000).2.2=0->(Cj v 1000000).1=(Cj u 1500).1)/\((Cj v 1000000).2.2=0\/(Cj v 1000000).2.2=13)/\0<=(Cj u 1500).2.1/\(Cj u 1500).2.1<=1500:=by
 have hn1:=((AbE u 1500).2 h).2.2.2.2;have hUu:=(GX hu).u;have e2:Cj u 1500=BY u 1500:=LM hu (by omega) (by omega);rw [e2] at h hn1 hfin ⊢;have hl:=(QN hUu (fuel:=1500) (by omega) (by omega) 1501).1.left0
 have h2:(BY u 1500).2.1<=1500:=by
  rw [Ew];split
  .show (0:Int)<=1500;decide
  show(1500:Int) - (goF u 1501 (Bd u 1500)).left<=1500;omega
 have hpf:=(QR hUu (a:=1500) (b:=(BY u 1500).2.1) (by omega) (by omega) (by omega) h).1 (Ybo _);obtain ⟨n,hn⟩:∃n:Int,n=(BY u 1500).2.1:=⟨_,rfl⟩;rw [<- hn] at hn1 h2 hpf ⊢;rw [<- hpf] at h hfin ⊢;rw [Ew] at h hfin ⊢
 have hsh:(goF u (n.toNat+1) (Bd u n)).short=false:=by
  cases hx:(goF u (n.toNat+1) (Bd u n)).short with
  | false=>rfl
  | true=>rw [hx,if_pos rfl] at h;cases h
 rw [hsh] at hfin ⊢;have hfin:(goF u (n.toNat+1) (Bd u n)).fin≠5:=hfin;have hg:=GG hUu (fuel:=n) (by omega) (by omega);have hov:(goF u (n.toNat+1) (Bd u n)).over=true:=Ml hUu _ _ hg (λ _=>rfl) (by show n+1<=_;omega)
 have hent:Bk (lvU u) u.main [] 0=Bk u u.main [] 0:=by
  rw [Pp];unfold Bk;rw [F7 (K8 hu)]
 have hSL:SL u (Bd u n).stack [Bk u u.main [] 0]:=by
  refine .cons ⟨rfl,rfl,rfl,?_,λx _=>rfl⟩ .nil;show (0:Int)=0+((Ol u u.main 0).length:Nat);rw [Agm hu hS];rfl
 have hP:=(K5 hM).u;have hmain:(lvU u).main=u.main:=rfl
 have key:∀b:Int,2101*n+3000<=b->∃d' S'',goF v (b.toNat+1) (Bd v b)=AO d' (wst S'' (goF u (n.toNat+1) (Bd u n))):=λb hb=>by
  have hst:Bd v b=AO (b - n) (wst [Bk v u.main [] 0] (Bd u n)):=by
   unfold Bd Dv;rw [hU.main,hmain];show ({ (⟨[],b,false,false,[],0,0,[]⟩:AE) with stack:= [Bk v u.main [] 0] }:AE)= { (⟨[],n,false,false,[],0,0,[]⟩:AE) with stack:= [Bk v u.main [] 0],left:=n+(b - n) };rw [show n+(b - n)=b by omega]
  obtain⟨m0,m1⟩:=hP.main;obtain ⟨F,hF⟩:=Ab (lvU u).fns (lvU u).main.toNat (by omega);obtain ⟨c,T3,hc,hc1,hES,hrun⟩:=Pu hU hF (args:= []) (by rw [hP.entry];rfl) (to:=0) (to':=0) (fs:= []) (fs':= []) .nil (M:=Bd u n) rfl rfl (by show [Bk u u.main [] 0]=_;rw [hmain,hent]);have hc1:=hc1 hv;have hES:ES (lvU u) ds [Bk u u.main [] 0] T3:=hES;obtain ⟨N,hN⟩:∃j,b.toNat+1=j+c:=⟨b.toNat+1 - c,by omega⟩;rw [hst,hN];have h9:=hrun (b - n) N (by show(c:Int)<=n+(b - n);omega);rw [hmain] at h9;rw [h9];exact SK hu hS hM hU hv (n.toNat+1) (Bd u n) _ _ T3 rfl rfl hg hov hsh hfin hSL hES (by show 2100*n+1024<=b - n - (c:Nat);omega) N (by show 2101*n+1<=_;omega)
 have hrv:Cj v 1000000=BY v 1000000:=LM hv (by decide) (by decide);rw [hrv];have hVv:=(GX hv).u;refine ⟨λ hen=> ?_,λhok=> ?_,?_,by omega,h2⟩
 .obtain ⟨d',S'',hk⟩:=key 1000000 (by omega);rw [Ew,hk];have hsh2:(AO d' (wst S'' (goF u (n.toNat+1) (Bd u n)))).short=false:=hsh;rw [hsh2];rfl
 .rw [Ew] at hok ⊢
  have hsh3:(goF v ((1000000:Int).toNat+1) (Bd v 1000000)).short=false:=by
   cases hx:(goF v ((1000000:Int).toNat+1) (Bd v 1000000)).short with
   | false=>rfl
   | true=>rw [hx,if_pos rfl] at hok;cases hok
  have hg3:=GG hVv (fuel:=1000000) (by decide) (by decide);have hov3:(goF v ((1000000:Int).toNat+1) (Bd v 1000000)).over=true:=Ml hVv _ _ hg3 (λ _=>rfl) (by show(1000000:Int)+1<=_;decide);have hl3:=(QN hVv (fuel:=1000000) (by decide) (by decide) ((1000000:Int).toNat+1)).1.left0;have hadd:=(QP (u:=v) (d:=6200000) _ _ rfl rfl hov3 hsh3 (by show(0:Int)<=1000000+6200000;decide) ((1000000+6200000:Int).toNat+1) (by show(1000000:Int)+6200000+1<=_;decide)).1 (by omega);rw [NX] at hadd;obtain ⟨d',S'',hk⟩:=key (1000000+6200000) (by omega);rw [hk] at hadd;rw [hsh3];have q1:=congrArg AE.out hadd;have q2:=congrArg AE.fin hadd;have q3:=congrArg AE.value hadd;show (⟨_,_,_⟩:Out)=⟨_,_,_⟩;have q1:(goF u (n.toNat+1) (Bd u n)).out=(goF v ((1000000:Int).toNat+1) (Bd v 1000000)).out:=q1;have q2:(goF u (n.toNat+1) (Bd u n)).fin=(goF v ((1000000:Int).toNat+1) (Bd v 1000000)).fin:=q2;have q3:(goF u (n.toNat+1) (Bd u n)).value=(goF v ((1000000:Int).toNat+1) (Bd v 1000000)).value:=q3;rw [<- q1, <- q2, <- q3]
 rw [Ew];split
 .exact .inr rfl
 exact .inl rfl
end
section
variable {f:Ai}(h:B6 f=0){many:Nat}{Nd:Nds}(hE:UH f many Nd)
include h hE
theorem XQ:(Dp f Nd).qa.length=(Aj f).length:=by
 show((Yz (Aj f).length).map (UG f Nd)).length=_;rw [Yh,List.length_range]
end
def XR (f:Ai):Prop:=∀b∈f.qa,b.ins.length<=2932031007402
theorem SN {c:Nat}:∀ {l:List Aa},(∀b∈l,b.ins.length<=c)->CW l<=l.length*c
 | [],_=>Ybg _
 | b::l,h=>by
  have h1:=h b (Yb ..);have h2:=SN λx hx=>h x (Yd _ hx);rw [CW,Yf,Ybm];omega
theorem Py:∀ {l:List Aa} {b:Aa},b∈l->b.ins.length<=CW l
 | [],b,h=>by cases h
 | c::l,b,h=>by
  rw [CW];rcases Ye.1 h with rfl | h
  .omega
  have:=Py h;omega
theorem XT {i:AQ}(h:D0 i=0):(0<=i.to/\i.to<4096)/\(∀a∈i.args,0<=a/\a<4096)/\(i.op=100->i.args.length=1)/\i.args.length<=16:=by
 have hv:∀ {v:Int},E2 v=true->0<=v/\v<4096:=λ {v} hv=>by
  unfold E2 at hv;rw [Bool.and_eq_true,decide_eq_true_eq,decide_eq_true_eq] at hv;omega
 unfold D0 at h;split at h
 .cases h
 rename_i h1;have h1:(!E2 i.to||i.args.any λa=> !E2 a)=false:=by simpa using h1
 rw [Bool.or_eq_false_iff] at h1;obtain ⟨h2,h3⟩:=h1;have h2:E2 i.to=true:=by simpa using h2
 have h3:∀a∈i.args,E2 a=true:=λa ha=>by
  rw [Yao] at h3;have:=h3 a ha;simpa using this
 refine⟨hv h2,λa ha=>hv (h3 a ha),?_⟩;split at h
 .rename_i h4;exact ⟨λ h5=>absurd h5 h4,(QK h).many⟩
 split at h
 .cases h
 rename_i h5;exact ⟨λ _=>by omega,by omega⟩
theorem Ks:∀ {l done:List Int},Cf done l=0->∀v∈l,0<=v/\v<4096
 | [],done,_,v,hv=>by cases hv
 | a::l,done,h,v,hv=>by
  rw [Cf] at h;split at h
  .cases h
  rename_i h1;split at h
  .cases h
  rcases Ye.1 hv with rfl | hv
  .have h1:E2 v=true:=by simpa using h1
   unfold E2 at h1;rw [Bool.and_eq_true,decide_eq_true_eq,decide_eq_true_eq] at h1;omega
  exact Ks h v hv
def mxV (m a:Int):Int:=if a+1>m then a+1 else m
def mxI (m:Int)(i:AQ):Int:=i.args.foldl mxV (mxV m i.to)
def mxB (m:Int)(b:Aa):Int:=b.ins.foldl mxI (b.params.foldl mxV (mxV m b.qb.arg))
def Ji (f:Ai):Int:=f.qa.foldl mxB 0
def GC (f:Ai):Nat:=(Ji f).toNat
theorem UK (m a:Int):m<=mxV m a/\a<mxV m a/\(m<=4096->a<4096->mxV m a<=4096):=by
 unfold mxV;split <;> omega
theorem UL:∀ {l:List Int} {m:Int},m<=l.foldl mxV m/\(∀a∈l,a<l.foldl mxV m)/\(m<=4096->(∀a∈l,a<4096)->l.foldl mxV m<=4096)
 | [],m=>⟨Ybo _,(λ a ha=>by cases ha),λh _=>h⟩
 | x::l,m=>by
  obtain⟨h1,h2,h3⟩:=UL (l:=l) (m:=mxV m x);obtain ⟨g1,g2,g3⟩:=UK m x;rw [Yp];refine ⟨by omega,λa ha=> ?_,λhm ha=>h3 (g3 hm (ha x (Yb ..))) λa h=>ha a (Yd _ h)⟩;rcases Ye.1 ha with rfl | ha
  .omega
  exact h2 a ha
theorem Afk {i:AQ}{m:Int}:m<=mxI m i/\i.to<mxI m i/\(∀a∈i.args,a<mxI m i)/\(m<=4096->i.to<4096->(∀a∈i.args,a<4096)->mxI m i<=4096):=by
 obtain⟨h1,h2,h3⟩:=UL (l:=i.args) (m:=mxV m i.to);obtain ⟨g1,g2,g3⟩:=UK m i.to;unfold mxI;exact ⟨by omega,by omega,h2,λhm ht ha=>h3 (g3 hm ht) ha⟩
theorem Wb:∀ {l:List AQ} {m:Int},m<=l.foldl mxI m/\(∀i∈l,i.to<l.foldl mxI m/\∀a∈i.args,a<l.foldl mxI m)/\(m<=4096->(∀i∈l,i.to<4096/\∀a∈i.args,a<4096)->l.foldl mxI m<=4096)
 | [],m=>⟨Ybo _,(λ a ha=>by cases ha),λh _=>h⟩
 | x::l,m=>by
  obtain⟨h1,h2,h3⟩:=Wb (l:=l) (m:=mxI m x);obtain ⟨g1,g2,g3,g4⟩:=Afk (i:=x) (m:=m);rw [Yp];refine ⟨by omega,λi hi=> ?_,λhm ha=>h3 (g4 hm (ha x (Yb ..)).1 (ha x (Yb ..)).2) λa h=>ha a (Yd _ h)⟩;rcases Ye.1 hi with rfl | hi
  .exact ⟨by omega,λa ha=>by have:=g3 a ha;omega⟩
  exact h2 i hi
def VB4 (b:Aa):Prop:=(0<=b.qb.arg/\b.qb.arg<4096)/\(∀a∈b.params,0<=a/\a<4096)/\∀i∈b.ins,(0<=i.to/\i.to<4096)/\(∀a∈i.args,0<=a/\a<4096)/\(i.op=100->i.args.length=1)/\i.args.length<=16
theorem Afl {b:Aa}{m:Int}:m<=mxB m b/\b.qb.arg<mxB m b/\(∀i∈b.ins,i.to<mxB m b/\∀a∈i.args,a<mxB m b)/\(m<=4096->VB4 b->mxB m b<=4096):=by
 obtain⟨g1,g2,g3⟩:=UK m b.qb.arg;obtain ⟨p1,p2,p3⟩:=UL (l:=b.params) (m:=mxV m b.qb.arg);obtain ⟨i1,i2,i3⟩:=Wb (l:=b.ins) (m:=b.params.foldl mxV (mxV m b.qb.arg));unfold mxB;exact ⟨by omega,by omega,i2,λhm ⟨v1,v2,v3⟩=>i3 (p3 (g3 hm v1.2) λa ha=>(v2 a ha).2) λi hi=>⟨(v3 i hi).1.2,λa ha=>((v3 i hi).2.1 a ha).2⟩⟩
theorem Wd:∀ {l:List Aa} {m:Int},m<=l.foldl mxB m/\(∀b∈l,b.qb.arg<l.foldl mxB m/\∀i∈b.ins,i.to<l.foldl mxB m/\∀a∈i.args,a<l.foldl mxB m)/\(m<=4096->(∀b∈l,VB4 b)->l.foldl mxB m<=4096)
 | [],m=>⟨Ybo _,(λ a ha=>by cases ha),λh _=>h⟩
 | x::l,m=>by
  obtain⟨h1,h2,h3⟩:=Wd (l:=l) (m:=mxB m x);obtain ⟨g1,g2,g3,g4⟩:=Afl (b:=x) (m:=m);rw [Yp];refine ⟨by omega,λb hb=> ?_,λhm ha=>h3 (g4 hm (ha x (Yb ..))) λa h=>ha a (Yd _ h)⟩;rcases Ye.1 hb with rfl | hb
  .refine ⟨by omega,λi hi=> ?_⟩;obtain ⟨q1,q2⟩:=g3 i hi;exact ⟨by omega,λa ha=>by have:=q2 a ha;omega⟩
  exact h2 b hb
section
variable {f:Ai}(h:B6 f=0)
include h
theorem XU {b:Aa}(hb:b∈f.qa):VB4 b:=by
 obtain⟨k,hk⟩:=Yk hb;have hB:=(CX h).block k b hk;refine ⟨?_,Ks hB.vars,λi hi=>XT (hB.ins i hi)⟩;have h1:=hB.arg;unfold E2 at h1;rw [Bool.and_eq_true,decide_eq_true_eq,decide_eq_true_eq] at h1;omega
theorem Kt:1<=Ji f/\Ji f<=4096/\Ji f=(GC f:Nat)/\∀b∈f.qa,V6 (GC f) b:=by
 have hM:=CX h;obtain ⟨h1,h2,h3⟩:=Wd (l:=f.qa) (m:=0);obtain ⟨b0,hb0⟩:=Ab f.qa 0 (by have:=hM.pos;omega);have hm0:=Ya hb0;have hlt:=(h2 b0 hm0).1;have hv0:=(XU h hm0).1;have hle:=h3 (by decide) λb hb=>XU h hb;have e:Ji f=(GC f:Nat):=by unfold GC;have:Ji f=f.qa.foldl mxB 0:=rfl;omega
 have hd:Ji f=f.qa.foldl mxB 0:=rfl;refine ⟨by omega,by omega,e,λb hb=> ?_⟩;obtain ⟨q1,q2⟩:=h2 b hb;obtain ⟨v1,v2,v3⟩:=XU h hb;refine ⟨⟨v1.1,by omega⟩,λi hi=>⟨(v3 i hi).1.1,by have:=(q2 i hi).1;omega⟩,λi hi a ha=>⟨((v3 i hi).2.1 a ha).1,by have:=(q2 i hi).2 a ha;omega⟩,λi hi=>(v3 i hi).2.2.1⟩
theorem QF (hz:XR f):∀b∈f.qa,b.ins.length<=4096:=λb hb=>by
 have hM:=CX h;have hN:=SN hz;have hN2:CW f.qa<=128*2932031007402:=Ybl hN (Ybn _ hM.len);have hc:=Ii f.qa 0 (Ybo _) (by omega);have h9:=h;unfold B6 at h9;split at h9
 .cases h9
 split at h9
 .cases h9
 rename_i h2;rw [hc] at h2;have:=Py hb;omega
theorem NJ {b:Aa}(hb:b∈f.qa):b.params.length<=6:=by
 have hM:=CX h;obtain ⟨k,hk⟩:=Yk hb
 by_cases h0:k=0
 .subst h0;have:=hM.params
  rwa [show (0:Int)=((0:Nat):Int) from rfl,Br (k:=((0:Nat):Int)) (by rw [Ybp];exact hk)] at this
 rw [(hM.block k b hk).params (by omega)];exact Ybg _
theorem We {b:Aa}(hb:b∈f.qa):b.qb.cases.length<=256/\b.qb.to.length<=257:=by
 obtain⟨k,hk⟩:=Yk hb;have hE:=CN ((CX h).block k b hk).qb;have h1:=hE.many;have hs:=hE.shape;refine ⟨by omega,?_⟩;unfold Dh at hs;split at hs
 .simp only [Bool.and_eq_true,decide_eq_true_eq] at hs;omega
 split at hs
 .simp only [Bool.and_eq_true,decide_eq_true_eq] at hs;omega
 split at hs
 .simp only [Bool.and_eq_true,decide_eq_true_eq] at hs;omega
 split at hs
 .simp only [Bool.and_eq_true,decide_eq_true_eq] at hs;omega
 split at hs
 .simp only [Bool.and_eq_true,decide_eq_true_eq] at hs;omega
 cases hs
theorem D6 {c:Aa}(hc:c∈Aj f):∃b∈f.qa,c=grT f b:=by
 obtain⟨i,hi⟩:=Yk hc;obtain ⟨v,b,_,_,hb,h1,_⟩:=NF h (Yc.1 hi).1;rw [hi] at h1;injection h1 with h1;exact ⟨b,Ya hb,h1⟩
theorem GV:1<=(Aj f).length/\(Aj f).length<=128:=by
 have h1:=Bf (QD h);have h2:=h1.pos;have h3:=h1.len;rw [C3];omega
theorem Adu {b:Aa}(hb:b∈f.qa):(grT f b).qb.to.length<=257:=by
 rw [UI,Yh]
 by_cases h0:b.qb.kind=0
 .rw [OJ h0];exact Ybg _
 rw [Jc h0];exact(We h hb).2
theorem UM {k:Nat}(hk:k<f.qa.length):gI (atF (skF f)) k<0/\Dn (skF f) (k+1)=Dn (skF f) k\/∃b,f.qa[k]? =some b/\k∈AJ (skF f).qa/\0<=gI (atF (skF f)) k/\gI (atF (skF f)) k=(Dn (skF f) k:Nat)/\Dn (skF f) (k+1)=Dn (skF f) k+1/\(Aj f)[Dn (skF f) k]? =some (grT f b)/\(skP f).qa[Dn (skF f) k]? =some (reB (atF (skF f)) (skB k b)):=by
 have hkl:k<(skF f).qa.length:=by rw [IY];exact hk
 obtain⟨b,hb⟩:=Ab f.qa k (by omega);rcases Abd (Pq h) hkl with ⟨h1,h2⟩ | ⟨h1,h2⟩
 .exact .inl ⟨by omega,h2⟩
 right;rcases AaR (Hp h) hkl with ⟨g1,g2⟩ | ⟨g1,g2,g3⟩
 .omega
 obtain⟨q1,q2⟩:=Ix h g1 hb;have e:rk (skF f) k=Dn (skF f) k:=by omega
 rw [e] at q1 q2;exact ⟨b,hb,g1,by omega,h1,h2,q1,q2⟩
theorem Adv:Dn (skF f) f.qa.length=(Aj f).length:=by
 unfold Aj;rw [Yh,Ho (Hp h),Yh];unfold Dn Bq;rw [IY]
omit h in
theorem Abw:Dn (skF f) 0=0:=rfl
omit h in
theorem Wf {G:List Aa}{many:Nat}(hE:∀b∈G,∀e∈b.qb.to,e.block.toNat<G.length):∀(n:Nat) (Nd:Nds),Kn Nd<=n->Sw G many Nd->∃Nd',Sw G many Nd'/\∀(k:Nat) (b:Aa),G[k]? =some b->Db Nd' many b=A6 Nd' k
 | n,Nd,hn,hI=>by
  by_cases hf:∀(k:Nat) (b:Aa),G[k]? =some b->Db Nd many b=A6 Nd k
  .exact ⟨Nd,hI,hf⟩
  have hf:∃(k:Nat) (b:Aa),G[k]? =some b/\Db Nd many b≠A6 Nd k:=by
   refine Classical.byContradiction λhn=>hf λk b hb=>Classical.byContradiction λhne=>hn ⟨k,b,hb,hne⟩
  obtain⟨k,b,hb,hne⟩:=hf;obtain ⟨h1,h2⟩:=Sx hE hI hb hne;obtain ⟨n,rfl⟩:∃m,n=m+1:=⟨n - 1,by omega⟩;exact Wf hE n _ (by omega) h1
theorem Abx (many:Nat):Nonempty { Nd:Nds // Lc (Aj f) (Bl f) many Nd }:=by
 have hE:∀b∈Aj f,∀e∈b.qb.to,e.block.toNat<(Aj f).length:=λb hb e he=>by have:=GU h b hb e he;omega
 obtain⟨Nd,hI,hf⟩:=Wf hE _ _ (Ybh _) (NA (many:=many) hE);refine ⟨⟨Nd,hI.len,hI.row,λk hk b hb=> ?_⟩⟩;have h1:=hf k b hb;have hk:=(Yc.1 hb).1;obtain ⟨s,hs⟩:=Ab Nd k (by rw [hI.len];omega);have h2:A6 Nd k=s:=by unfold A6;rw [hs];rfl
 rw [hs,h1,h2]
omit h in
theorem SO:∀(l:List Int) (s:BSt),(l.foldl stP s).nx<=s.nx+l.length/\(l.foldl stP s).ins=s.ins
 | [],s=>⟨by show s.nx<=s.nx+0;omega,rfl⟩
 | v::l,s=>by
  obtain⟨h1,h2⟩:=SO l (stP s v);have e:(stP s v).nx=s.nx+1:=rfl;rw [Yp,Yf];exact ⟨by omega,h2⟩
omit h in
theorem NK {f:BSt->Int->Bool->BSt}(hf:∀s v x,(f s v x).nx<=s.nx+1/\(f s v x).ins.length<=s.ins.length+1):∀(l:List Bool) (j:Nat) (s:BSt),(Cq f j l s).nx<=s.nx+l.length/\(Cq f j l s).ins.length<=s.ins.length+l.length
 | [],j,s=>⟨by show s.nx<=s.nx+0;omega,Ybh _⟩
 | x::l,j,s=>by
  obtain⟨h1,h2⟩:=NK hf l (j+1) (f s j x);obtain ⟨h3,h4⟩:=hf s j x;rw [Cq,Yf];exact ⟨by omega,by omega⟩
omit h in
theorem Afm (s:BSt)(v:Int)(x:Bool):(stI s v x).nx<=s.nx+1/\(stI s v x).ins.length<=s.ins.length+1:=by
 unfold stI;split
 .exact ⟨Ybo _,by show(s.ins++ [_]).length<=_;rw [Yi];exact Ybh _⟩
 exact⟨by omega,by omega⟩
omit h in
theorem Afn (s:BSt)(v:Int)(x:Bool):(stQ s v x).nx<=s.nx+1/\(stQ s v x).ins.length<=s.ins.length+1:=by
 unfold stQ;split
 .exact ⟨Ybo _,by show s.ins.length<=_;omega⟩
 exact⟨by omega,by omega⟩
omit h in
theorem Aby (G:List Aa)(inn:List (List Int))(Nd:Nds)(ends:Nat->Env)(k:Nat)(nx:Int):(Cr G inn Nd ends k nx).nx<=nx+((Au G 0).params.length+(A6 Nd k).length:Nat)/\(Cr G inn Nd ends k nx).ins.length<=(A6 Nd k).length:=by
 unfold Cr
 by_cases h0:k=0
 .subst h0;rw [if_pos rfl];obtain ⟨p1,p2⟩:=SO (Au G 0).params (C8 nx);obtain ⟨q1,q2⟩:=NK Afm (A6 Nd 0) 0 ((Au G 0).params.foldl stP (C8 nx));have e:(C8 nx).nx=nx:=rfl;have e2:(C8 nx).ins.length=0:=rfl;rw [p2] at q2;unfold LX;exact ⟨by omega,by omega⟩
 rw [if_neg h0];split
 .exact ⟨by show nx<=_;omega,Ybg _⟩
 obtain⟨q1,q2⟩:=NK Afn (A6 Nd k) 0 (C8 nx);have e:(C8 nx).nx=nx:=rfl;have e2:(C8 nx).ins.length=0:=rfl;unfold Ux;exact ⟨by omega,by omega⟩
omit h in
theorem SP:∀(l:List AQ) (s:BSt),(l.foldl stB s).nx<=s.nx+l.length
 | [],s=>by show s.nx<=s.nx+0;omega
 | i::l,s=>by
  have h1:=SP l (stB s i)
  have h2:(stB s i).nx<=s.nx+1:=by
   unfold stB;split
   .show s.nx<=s.nx+1;omega
   exact Ybo _
  rw [Yp,Yf];omega
end
section
variable {n:Int}{v:Cu}{L:Int}
structure AgX (n:Int)(v:Cu)(i s:Int):Prop where
 v0:AN v 0= .word i
 v1:AN v 1= .word n
 v2:AN v 2= .word 1
 v3:AN v 3= .word s
end
end Go.SM
end
