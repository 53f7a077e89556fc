import Derived.Test.YthlflmmnankhhaaGreatSY
set_option linter.all false
open List renaming mem_cons → Ya, mem_cons_of_mem → Yb, mem_cons_self → Yc, not_mem_nil → Yd, mem_of_getElem? → Ye, range → Yf, countP_cons → Yg, cons_append → Yh, getElem?_eq_getElem → Yi, exists_cons_of_ne_nil → Yj, map_append → Yk, mem_or_eq_of_mem_set → Yl
open Nat renaming le_refl → Ym
open Int renaming le_refl → Yn
section
namespace Go.SM
open Go.VL
theorem Afo (w:BitVec 64)(j:Nat):((w >>> j) &&& 1#64==1#64)=w.getLsbD j:=by
 rw [BitVec.and_one_eq_setWidth_ofBool_getLsbD,BitVec.getLsbD_ushiftRight,Nat.add_zero]
 cases w.getLsbD j <;> rfl
theorem G6 (s:BN)(k:Nat):s.has k=(s.word k).getLsbD (k % 64):=Afo _ _
theorem Pz {k:Nat}(h:k<128):k / 64=0/\k % 64=k/\k<64\/k / 64=1/\k % 64=k - 64/\64<=k:=by omega
theorem Wg (i j:Nat)(hj:j<64)(hi:i<64):(1#64 <<< i).getLsbD j=decide (j=i):=by
 rw [BitVec.getLsbD_shiftLeft]
 by_cases h:j=i
 .subst h;simp [hj]
 by_cases h2:j<i
 .simp [h2,h]
 have:j - i≠0:=by omega
 simp [h,BitVec.getLsbD_one,this]
theorem Cs (s:BN){k j:Nat}(hk:k<128)(hj:j<128):(s.with k).has j=(s.has j||decide (j=k)):=by
 rw [G6,G6];unfold BN.with BN.word;rcases Pz hk with ⟨a1,a2,a3⟩ | ⟨a1,a2,a3⟩ <;> rcases Pz hj with ⟨b1,b2,b3⟩ | ⟨b1,b2,b3⟩
 .rw [if_pos a1,if_pos b1,if_pos b1,BitVec.getLsbD_or,Wg _ _ (by omega) (by omega),a2,b2]
 .rw [if_pos a1,if_neg (by omega),if_neg (by omega),decide_eq_false (by omega:¬j=k),Bool.or_false]
 .rw [if_neg (by omega:¬k / 64=0),if_pos b1,if_pos b1,decide_eq_false (by omega:¬j=k),Bool.or_false]
 rw [if_neg (by omega:¬k / 64=0),if_neg (by omega),if_neg (by omega),BitVec.getLsbD_or,Wg _ _ (by omega) (by omega),a2,b2]
 congr 1
 rw [Bool.eq_iff_iff];simp;omega
theorem NL (s t:BN)(j:Nat):(s.both t).has j=(s.has j&&t.has j):=by
 rw [G6,G6,G6];unfold BN.both BN.word;split <;> rw [BitVec.getLsbD_and]
theorem Adw {s t:BN}(h:∀j,j<128->s.has j=t.has j):s=t:=by
 apply Prod.ext
 .apply BitVec.eq_of_getLsbD_eq;intro i hi;have:=h i (by omega);rw [G6,G6] at this;unfold BN.word at this
  rwa [if_pos (by omega),if_pos (by omega),Nat.mod_eq_of_lt hi] at this
 apply BitVec.eq_of_getLsbD_eq;intro i hi;have:=h (64+i) (by omega);rw [G6,G6] at this;unfold BN.word at this
 rwa [if_neg (by omega),if_neg (by omega),show(64+i) % 64=i by omega] at this
theorem UN (j:Nat):E1.has j=false:=by
 rw [G6];unfold BN.word E1;split <;> simp
theorem QG:∀(n:Nat),n<=128->∀j,j<128->(Ea n).has j=decide (j<n)
 | 0,_,j,_=>by rw [Ea,UN];simp
 | n+1,h,j,hj=>by
  rw [Ea,Cs _ (by omega) hj,QG n (by omega) j hj,Bool.eq_iff_iff];simp;omega
theorem Lg {α:Type}{p q:α->Bool}:∀ {l:List α},(∀x∈l,p x=true->q x=true)->l.countP p<=l.countP q:=λh=>List.countP_mono_left h
theorem Lh {α:Type}{p q:α->Bool}:∀ {l:List α},(∀x∈l,p x=true->q x=true)->(∃x∈l,q x=true/\p x=false)->l.countP p<l.countP q
 | [],_,h=>by obtain⟨x,hx,_⟩:=h;cases hx
 | y::l,h,⟨x,hx,h1,h2⟩=>by
  have hl:=Lg (p:=p) (q:=q) (l:=l) λz hz=>h z (Yb _ hz);rcases Ya.1 hx with rfl | hx
  .rw [Yg,Yg,h1,h2];simp;omega
  have:=Lh (p:=p) (q:=q) (l:=l) (λ z hz=>h z (Yb _ hz)) ⟨x,hx,h1,h2⟩;have hy:=h y (Yc ..);rw [Yg,Yg]
  cases hp:p y
  .simp;split <;> omega
  rw [hy hp];simp;exact this
def cnt (s:BN):Nat:=(Yf 128).countP s.has
def Li (n:Nat)(s:BN):Nat:=(Yf n).countP λk=> !s.has k
def FN (n:Nat)(d:Dom):Nat:=(d.over.map cnt).sum+Li n d.seen
theorem Wh {l:List Nat}{k x y:Nat}(h:l[k]? =some x):(l.set k y).sum+x=l.sum+y:=by
 induction l generalizing k with
 | nil=>simp at h
 | cons a l ih=>
  cases k with
  | zero=>simp at h;subst h;simp;omega
  | succ k=>simp at h;have:=ih h;simp;omega
structure CQ (n:Nat)(d:Dom):Prop where
 len:d.over.length=n
 le:n<=128
 self:∀k,k<n->(d.at k).has k=true
theorem UO {d:Dom}{t k:Nat}{s:BN}{u:BN}{a:Bool}(h:t<d.over.length):(Dom.mk (d.over.set t s) u a).at k=if t=k then s else d.at k:=by
 unfold Dom.at;rw [List.getElem?_set];split
 .rename_i e;subst e;simp [h]
 rfl
def Ku (n:Nat)(d d':Dom):Prop:=CQ n d'/\(d'=d\/d'.again=true/\FN n d'<FN n d)
theorem Ku.trans {n:Nat}{a b c:Dom}(h:Ku n a b)(k:Ku n b c):Ku n a c:=by
 refine⟨k.1,?_⟩;rcases h.2 with rfl | ⟨h1,h2⟩
 .exact k.2
 rcases k.2 with rfl | ⟨k1,k2⟩
 .exact .inr ⟨h1,h2⟩
 exact .inr ⟨k1,by omega⟩
theorem Fa {n k:Nat}{d:Dom}{e:Am}(ok:CQ n d)(hk:k<n)(h1:1<=e.block)(h2:e.block<n):Ku n d (Bj k d e):=by
 have hn:=ok.le;have ht:e.block.toNat<n:=by omega
 unfold Bj;dsimp only;split
 .rename_i hc;have hself:=ok.self _ ht
  have hsub:∀j,j<128->(((d.at e.block.toNat).both (d.at k)).with e.block.toNat).has j=true->(d.at e.block.toNat).has j=true:=λj hj hh=>by
   rw [Cs _ (by omega) hj,NL,Bool.or_eq_true,Bool.and_eq_true,decide_eq_true_eq] at hh;rcases hh with hh | rfl
   .exact hh.1
   exact hself
  have hget:(d.over.map cnt)[e.block.toNat]? =some (cnt (d.at e.block.toNat)):=by
   unfold Dom.at;rw [List.getElem?_map,Yi (by rw [ok.len];exact ht)];rfl
  have hle:cnt (((d.at e.block.toNat).both (d.at k)).with e.block.toNat)<=cnt (d.at e.block.toNat):=Lg λj hj=>hsub j (by simpa using hj);have hsum:=Wh (y:=cnt (((d.at e.block.toNat).both (d.at k)).with e.block.toNat)) hget
  have hseen:Li n (d.seen.with e.block.toNat)<=Li n d.seen:=Lg λj hj=>by
   have hj':j<n:=by simpa using hj
   rw [Cs _ (by omega) (by omega)]
   cases d.seen.has j <;> simp
  refine⟨⟨by simp [ok.len],hn,λj hj=> ?_⟩, .inr ⟨rfl,?_⟩⟩
  .rw [UO (by rw [ok.len];exact ht)];split
   .rename_i e';subst e';rw [Cs _ (by omega) (by omega)];simp
   exact ok.self j hj
  unfold FN;dsimp only;rw [List.map_set];rcases hc with hc | hc
  .have:cnt (((d.at e.block.toNat).both (d.at k)).with e.block.toNat)<cnt (d.at e.block.toNat):=by
    refine Lh (λ j hj=>hsub j (by simpa using hj)) ?_;apply Classical.byContradiction;intro hno;refine hc (Adw λj hj=> ?_);rw [Bool.eq_iff_iff];refine ⟨hsub j hj,λhh=> ?_⟩;apply Classical.byContradiction;intro hf;exact hno ⟨j,by simpa using hj,hh,by simpa using hf⟩
   omega
  have:Li n (d.seen.with e.block.toNat)<Li n d.seen:=by
   refine Lh (λ j hj=> ?_) ⟨e.block.toNat,by simpa using ht,by rw [hc];rfl,by rw [Cs _ (by omega) (by omega)];simp⟩;have hj':j<n:=by simpa using hj
   rw [Cs _ (by omega) (by omega)]
   cases d.seen.has j <;> simp
  omega
 exact⟨ok, .inl rfl⟩
theorem QH {n k:Nat}(hk:k<n):∀ {l:List Am} {d:Dom},CQ n d->(∀e∈l,1<=e.block/\e.block<n)->Ku n d (l.foldl (Bj k) d)
 | [],d,ok,_=>⟨ok, .inl rfl⟩
 | e::l,d,ok,h=>by
  have h1:=Fa ok hk (h e (Yc ..)).1 (h e (Yc ..)).2;exact h1.trans (QH hk h1.1 λx hx=>h x (Yb _ hx))
theorem I1 {n k:Nat}{b:Aa}{d:Dom}(hk:k<n)(ok:CQ n d)(h:∀e∈b.qb.to,1<=e.block/\e.block<n):Ku n d (BJ d k b):=by
 unfold BJ;split
 .exact QH hk ok h
 exact⟨ok, .inl rfl⟩
theorem Lj {n:Nat}:∀ {l:List Aa} {k:Nat} {d:Dom},k+l.length=n->CQ n d->(∀b∈l,∀e∈b.qb.to,1<=e.block/\e.block<n)->Ku n d (Ca k l d)
 | [],k,d,_,ok,_=>⟨ok, .inl rfl⟩
 | b::l,k,d,hl,ok,h=>by
  have hl':k+(l.length+1)=n:=hl;have h1:=I1 (k:=k) (by omega) ok (h b (Yc ..));exact h1.trans (Lj (by omega) h1.1 λx hx=>h x (Yb _ hx))
theorem Afp (s:BN):cnt s<=128:=by
 have:=List.countP_le_length (p:=s.has) (l:=Yf 128);rw [List.length_range] at this;exact this
theorem Abz:∀(l:List BN),(l.map cnt).sum<=128*l.length
 | []=>by simp
 | s::l=>by
  have:=Abz l;have:=Afp s;simp;omega
theorem Kv {n:Nat}(h0:0<n)(hn:n<=128):CQ n (CU n):=by
 refine⟨by simp [CU],hn,λk hk=> ?_⟩;unfold CU Dom.at;rw [List.getElem?_set];split
 .rename_i e;subst e;simp [h0];rw [Cs _ (by omega) (by omega)];simp
 rw [List.getElem?_replicate,if_pos hk];rw [Option.getD_some,QG n hn k (by omega),decide_eq_true hk]
theorem Wi (n:Nat):FN n (CU n)<=129*n:=by
 unfold FN;have h1:=Abz (CU n).over;have h2:=List.countP_le_length (p:=λk=> !(CU n).seen.has k) (l:=Yf n);have h3:(CU n).over.length=n:=by simp [CU]
 rw [h3] at h1;rw [List.length_range] at h2;unfold Li;omega
theorem round {bs:List Aa}{n:Nat}{d:Dom}(ok:CQ bs.length d)(h:∀b∈bs,∀e∈b.qb.to,1<=e.block/\e.block<bs.length)(hw:FN bs.length d+(if d.again then 1 else 0)<=n)(ha:d.again=true):
  ∃n',n=n'+1/\DJ bs n d=DJ bs n' (Ca 0 bs { d with again:=false })/\CQ bs.length (Ca 0 bs { d with again:=false })/\
   FN bs.length (Ca 0 bs { d with again:=false })+(if (Ca 0 bs { d with again:=false }).again then 1 else 0)<=n':=by
 rw [ha,if_pos rfl] at hw;obtain ⟨n',rfl⟩:∃n',n=n'+1:=⟨n - 1,by omega⟩;have hp:=Lj (l:=bs) (k:=0) (d:= { d with again:=false }) (by omega) ⟨ok.len,ok.le,ok.self⟩ h;refine ⟨n',rfl,by rw [DJ,if_pos ha],hp.1,?_⟩;have hwe:FN bs.length { d with again:=false }=FN bs.length d:=rfl;rcases hp.2 with e | ⟨h1,h2⟩
 .rw [e];simp only [Bool.false_eq_true,if_false];omega
 rw [h1,if_pos rfl];omega
def Fb (n:Int)(d:BB):Prop:=∀v p,Cc d v=some p->0<=p.1/\p.1<n
theorem PA (v x:Int)(p:Int×Int):∀d:BB,Cc (d++ [(v,p)]) x=(Cc d x).orElse λ_=>if v=x then some p else none
 | []=>by simp [Cc]
 | (k,q)::d=>by
  rw [Yh,Cc,Cc,PA v x p d];split <;> simp
theorem Fb.nil (n:Int):Fb n []:=λv p h=>by cases h
theorem GD {n:Int}{v:Int}{p:Int×Int}{d:BB}(h:Fb n d)(h0:0<=p.1)(h1:p.1<n):Fb n (By v p d).2:=by
 unfold By;split
 .exact h
 split
 .exact h
 intro x q hx;dsimp only at hx;rw [PA] at hx
 cases hd:Cc d x with
 | some y=>rw [hd] at hx;simp at hx;subst hx;exact h _ _ hd
 | none=>
  rw [hd] at hx;simp at hx;obtain ⟨_,rfl⟩:=hx;exact ⟨h0,h1⟩
theorem HO {n k:Int}(h0:0<=k)(h1:k<n):∀(l:List Int) {d:BB},Fb n d->Fb n (BH k l d).2
 | [],d,h=>h
 | p::l,d,h=>by
  rw [BH];split
  .exact GD h h0 h1
  exact HO h0 h1 l (GD h h0 h1)
theorem NM {n k:Int}(h0:0<=k)(h1:k<n):∀(l:List AQ) (j:Int) {d:BB},Fb n d->Fb n (Da k j l d).2
 | [],j,d,h=>h
 | i::l,j,d,h=>by
  rw [Da];split
  .exact GD h h0 h1
  split
  .exact GD h h0 h1
  exact NM h0 h1 l _ (GD h h0 h1)
theorem PB {n k:Int}(h0:0<=k)(h1:k<n)(bs:List Aa)(b:Aa){d:BB}(h:Fb n d):Fb n (Di bs k b d).2:=by
 unfold Di;split
 .exact HO h0 h1 _ h
 split
 .exact NM h0 h1 _ _ (HO h0 h1 _ h)
 exact NM h0 h1 _ _ (HO h0 h1 _ h)
theorem NN {n:Int}(bs:List Aa):∀(l:List Aa) (k:Int) {d:BB},0<=k->k+l.length<=n->Fb n d->Fb n (Bv bs k l d).2
 | [],k,d,_,_,h=>h
 | b::l,k,d,h0,h1,h=>by
  rw [List.length_cons] at h1;rw [Bv];split
  .exact PB h0 (by omega) bs b h
  exact NN bs l (k+1) (by omega) (by omega) (PB h0 (by omega) bs b h)
theorem SQ {bs:List Aa}(h:∀b∈bs,∀e∈b.qb.to,1<=e.block/\e.block<bs.length):∀(n:Nat) {d:Dom},CQ bs.length d->CQ bs.length (DJ bs n d)
 | 0,d,ok=>ok
 | n+1,d,ok=>by
  rw [DJ];split
  .exact SQ h n (Lj (l:=bs) (k:=0) (d:= { d with again:=false }) (by omega) ⟨ok.len,ok.le,ok.self⟩ h).1
  exact ok
theorem Adx {bs:List Aa}(h0:0<bs.length)(hn:bs.length<=128)(h:∀b∈bs,∀e∈b.qb.to,1<=e.block/\e.block<bs.length):(B8 bs).over.length=bs.length:=(SQ h _ (Kv h0 hn)).len
def F8 (bs:List Aa)(b:Aa):Prop:=(∀i∈b.ins,FQ i=0)/\HX bs b.qb=0
theorem LK {k:Int}:∀(l:List AQ) (j:Int) (d:BB),(Da k j l d).1=0->∀i∈l,FQ i=0
 | [],_,_,_,i,hi=>by cases hi
 | x::l,j,d,h,i,hi=>by
  rw [Da] at h;split at h
  .rename_i hc;exact absurd h hc
  split at h
  .rename_i hc;exact absurd h hc
  rename_i hc;rcases Ya.1 hi with rfl | hi
  .exact Classical.not_not.1 hc
  exact LK l _ _ h i hi
theorem XV {bs:List Aa}{k:Int}{b:Aa}{d:BB}(h:(Di bs k b d).1=0):F8 bs b:=by
 unfold Di at h;split at h
 .rename_i hc;exact absurd h hc
 split at h
 .rename_i hc;exact absurd h hc
 rename_i hc;exact ⟨LK _ _ _ (Classical.not_not.1 hc),h⟩
theorem JC {bs:List Aa}:∀(l:List Aa) (k:Int) (d:BB),(Bv bs k l d).1=0->∀b∈l,F8 bs b
 | [],_,_,_,b,hb=>by cases hb
 | x::l,k,d,h,b,hb=>by
  rw [Bv] at h;split at h
  .rename_i hc;exact absurd h hc
  rename_i hc;rcases Ya.1 hb with rfl | hb
  .exact XV (Classical.not_not.1 hc)
  exact JC l _ _ h b hb
theorem PC {bs:List Aa}:∀ {l:List Am},Cx bs l=0->∀e∈l,1<=e.block/\e.block<bs.length/\e.args.length=(AI bs e.block).length
 | [],_,e,he=>by cases he
 | x::l,h,e,he=>by
  rw [Cx] at h;split at h
  .cases h
  rename_i h1;split at h
  .cases h
  rename_i h2;rcases Ya.1 he with rfl | he
  .have h1:wi e.block 1 (bs.length - 1)=true:=by simpa using h1
   have:=C0.1 h1;exact ⟨this.1,by omega,Classical.not_not.1 h2⟩
  exact PC h e he
structure Ags (bs:List Aa)(t:BG):Prop where
 shape:Dh t=true
 many:(t.cases.length:Int)<=256
 trap:t.kind=4->1<=t.n/\t.n<=6
 cases:BM [] t.cases=0
 edges:∀e∈t.to,1<=e.block/\e.block<bs.length/\e.args.length=(AI bs e.block).length
theorem CN {bs:List Aa}{t:BG}(h:HX bs t=0):Ags bs t:=by
 unfold HX at h;split at h
 .cases h
 rename_i h1;split at h
 .cases h
 rename_i h2;split at h
 .cases h
 rename_i h3;split at h
 .rename_i hc;exact absurd h hc
 rename_i hc;refine ⟨by simpa using h1,by omega,λhk=> ?_,Classical.not_not.1 hc,PC h⟩
 have:wi t.n 1 6=true:=by
  cases hw:wi t.n 1 6 with
  | true=>rfl
  | false=>exact absurd ⟨hk,hw⟩ h3
 exact C0.1 this
theorem Kw {bs:List Aa}{k:Int}{d:BB}(h:(Bv bs k bs d).1=0):∀b∈bs,∀e∈b.qb.to,1<=e.block/\e.block<bs.length:=λb hb e he=>
 have:=(CN (JC bs k d h b hb).2).edges e he
 ⟨this.1,this.2.1⟩
theorem UP {i:AQ}(h:FQ i=0)(ho:i.op=13\/i.op=9):0<=i.n:=by
 unfold FQ at h;split at h
 .cases h
 split at h
 .cases h
 split at h
 .rename_i hn;unfold GP at hn;have e:Bh i.op [9,13]=true:=by rcases ho with h | h <;> simp [Bh,h]
  rw [if_neg (by omega),if_neg (by omega),if_neg (by omega),if_pos e] at hn;exact (C0.1 hn).1
 cases h
structure CA (f:Ai):Prop where
 pos:0<f.qa.length
 len:f.qa.length<=128
 ins:BX 0 f.qa<=1024
 params:(AI f.qa 0).length<=6
 name: -1<=f.name/\f.name<=1048575
 qa:(Bv f.qa 0 f.qa []).1=0
 uses:EC (Bv f.qa 0 f.qa []).2 (B8 f.qa) 0 f.qa=0
theorem Bf {f:Ai}(h:Bu f=0):CA f:=by
 unfold Bu at h;split at h
 .cases h
 rename_i h1;split at h
 .cases h
 rename_i h2;split at h
 .cases h
 rename_i h3;split at h
 .rename_i hc;exact absurd h hc
 rename_i hc;have h3:wi f.name (-1) 1048575=true:=by simpa using h3
 exact⟨by omega,by omega,by omega,by omega,C0.1 h3,Classical.not_not.1 hc,h⟩
theorem CA.block {f:Ai}(h:CA f){b:Aa}(hb:b∈f.qa):F8 f.qa b:=JC _ _ _ h.qa b hb
theorem CA.ne {f:Ai}(h:CA f):f.qa≠ []:=λe=>by have:=h.pos;rw [e] at this;cases this
theorem C4 {α:Type}{f:α->Int}:∀ {l:List α},Ax f l=0->∀x∈l,f x=0
 | [],_,x,hx=>by cases hx
 | y::l,h,x,hx=>by
  rw [Ax] at h;split at h
  .rename_i hc;exact absurd h hc
  rename_i hc;rcases Ya.1 hx with rfl | hx
  .exact Classical.not_not.1 hc
  exact C4 h x hx
def HV (nh:Nat)(kind:Int):Option Nat->Bool
 | none=>decide (kind≠3)
 | some j=>decide (j<nh)
mutual
def okV (nf:Nat)(nh:Nat):Val->Bool
 | .mk k n l a=>HV nh k a&&(decide (k≠2)||wi n 0 (nf - 1))&&(decide (l.length<=4096)&&LY nf nh l)
def LY (nf:Nat)(nh:Nat):List Val->Bool
 | []=>true
 | v::l=>okV nf nh v&&LY nf nh l
end
theorem SS (nf nh:Nat):∀l,LY nf nh l=l.all (okV nf nh)
 | []=>rfl
 | v::l=>by rw [LY,SS nf nh l,List.all_cons]
theorem HP {nf nh:Nat}{v:Val}:okV nf nh v=true↔HV nh v.kind v.arr=true/\(v.kind=2->0<=v.n/\v.n<nf)/\v.list.length<=4096/\∀x∈v.list,okV nf nh x=true:=by
 cases v with
 | mk k n l a=>
  rw [okV,SS];simp only [Bool.and_eq_true,Bool.or_eq_true,decide_eq_true_eq,List.all_eq_true,Val.kind,Val.n,Val.list,Val.arr,C0];constructor
  .rintro ⟨⟨h1,h2⟩,h4,h3⟩;exact ⟨h1,λh=>by rcases h2 with h2 | h2;exact absurd h h2;omega,h4,h3⟩
  rintro⟨h1,h2,h4,h3⟩;refine ⟨⟨h1,?_⟩,h4,h3⟩
  by_cases h:k=2
  .have:=h2 h;exact .inr ⟨this.1,by omega⟩
  exact .inl h
theorem CZ (nf nh:Nat):okV nf nh Val.zero=true:=by simp [Val.zero,okV,HV,LY]
theorem FG (nf nh:Nat)(n:Int):okV nf nh (Val.word n)=true:=by simp [Val.word,okV,HV,LY]
theorem UQ {nh nh':Nat}(h:nh<=nh'){k:Int}:∀ {a:Option Nat},HV nh k a=true->HV nh' k a=true
 | none,h1=>h1
 | some j,h1=>by simp [HV] at h1 ⊢;omega
mutual
theorem Iy {nf nh nh':Nat}(h:nh<=nh'):∀v,okV nf nh v=true->okV nf nh' v=true
 | .mk k n l a,h1=>by
  rw [okV,Bool.and_eq_true,Bool.and_eq_true,Bool.and_eq_true] at h1 ⊢;exact ⟨⟨UQ h h1.1.1,h1.1.2⟩,h1.2.1,PD h l h1.2.2⟩
theorem PD {nf nh nh':Nat}(h:nh<=nh'):∀l,LY nf nh l=true->LY nf nh' l=true
 | [],_=>rfl
 | v::l,h1=>by
  rw [LY,Bool.and_eq_true] at h1 ⊢;exact ⟨Iy h v h1.1,PD h l h1.2⟩
end
mutual
theorem ST {nf nh:Nat}{ρ ρ':Nat->Nat}(h:∀k,k<nh->ρ k=ρ' k):∀v,okV nf nh v=true->KU ρ v=KU ρ' v
 | .mk k n l a,h1=>by
  rw [okV,Bool.and_eq_true,Bool.and_eq_true,Bool.and_eq_true] at h1;rw [KU,KU,PE h l h1.2.2]
  have:MI ρ a=MI ρ' a:=by
   cases a with
   | none=>rfl
   | some j=>
    have:=h1.1.1;simp [HV] at this;simp [MI,h j this]
  rw [this]
theorem PE {nf nh:Nat}{ρ ρ':Nat->Nat}(h:∀k,k<nh->ρ k=ρ' k):∀l,LY nf nh l=true->Lu ρ l=Lu ρ' l
 | [],_=>rfl
 | v::l,h1=>by
  rw [LY,Bool.and_eq_true] at h1;rw [Lu,Lu,ST h v h1.1,PE h l h1.2]
end
theorem SU {nf nh:Nat}{ρ ρ':Nat->Nat}(h:∀k,k<nh->ρ k=ρ' k){v:Val}(hv:okV nf nh v=true):AV ρ v=AV ρ' v:=by rw [<- L4, <- L4,ST h v hv]
theorem Dq {nf nh:Nat}{l:List Val}(hv:∀v∈l,okV nf nh v=true)(k:Nat):okV nf nh (Ah l k)=true:=by
 unfold Ah
 cases h:l[k]? with
 | none=>exact CZ nf nh
 | some v=>exact hv v (Ye h)
theorem XW {l:List Val}{k:Nat}(h:k<l.length):Ah l k∈l:=by
 rw [Ah,Yi h];exact List.getElem_mem h
theorem Mh {nf nh:Nat}(v:Int):∀ {m:Cu},(∀e∈m,okV nf nh e.2=true)->okV nf nh (AN m v)=true
 | [],_=>CZ nf nh
 | e::m,h=>by
  obtain⟨k,x⟩:=e;rw [AN];split
  .exact h _ (Yc ..)
  exact Mh v λe he=>h e (Yb _ he)
theorem NO (op:Int):∀(as bs:List Val) (a b:Val),as.length=bs.length->Cy op (as++ [a]) (bs++ [b])=Cy op as bs++ [(Du op a.n b.n).1]
 | [],[],a,b,_=>rfl
 | x::as,y::bs,a,b,h=>by
  simp at h;rw [Yh,Yh,Cy,NO op as bs a b h,Cy,Yh]
 | [],_::_,a,b,h=>by simp at h
 | _::_,[],a,b,h=>by simp at h
theorem Lk (op:Int):∀(as bs:List Val),(Cy op as bs).length<=as.length
 | x::as,y::bs=>by
  have:=Lk op as bs;simp [Cy];exact this
 | [],_=>by simp [Cy]
 | _::_,[]=>by simp [Cy]
structure Agt (i:AQ)(n:Nat):Prop where
 known:Bh i.op [0,1,2,3,4,5,6,7,8,9,10,11,12,21,22,23,24,100,15,16,17,18,19,20]=true
 many:n<=4096
 two:Bh i.op [1,2,3,4,5,6,7,16,18,19,21,23]=true->n=2
 one:Bh i.op [10,11,12,15,17,24,100]=true->n=1
 three:i.op=20->n=3
 num:i.op=11\/i.op=24->0<=i.n
structure FO (fn:Ai)(t:BG):Prop where
 one:t.kind=1->1<=t.to.length
 two:t.kind=2->t.to.length=2
 many:t.kind≠0->t.kind≠1->t.kind≠2->t.kind≠4->t.to.length=t.cases.length+1
 edges:∀e∈t.to,0<=e.block/\(∃b,fn.qa[e.block.toNat]? =some b/\e.args.length=b.params.length)/\e.args.length<=4096
structure Wj (u:Ao)(i:AQ):Prop where
 ops:i.op≠13->i.op≠14->Agt i i.args.length
 call:i.op=13->0<=i.n/\i.n<u.fns.length/\(AT u i.n).length=i.args.length
 app:i.op=14->1<=i.args.length
 clos:i.op=9->0<=i.n/\i.n<u.fns.length
 many:i.args.length<=4096
structure UOk (u:Ao):Prop where
 main:0<=u.main/\u.main<u.fns.length
 entry:AT u u.main= []
 ne:∀f∈u.fns,f.qa≠ []
 qb:∀f∈u.fns,∀b∈f.qa,FO f b.qb
 ins:∀f∈u.fns,∀b∈f.qa,∀i∈b.ins,Wj u i
theorem Fc {fn:Ai}{t:BG}(h:FO fn t)(n:Int)(h0:t.kind≠0)(h1:t.kind≠1)(h4:t.kind≠4):0<=DK t n/\DK t n<t.to.length:=by
 unfold DK;split
 .rename_i h2;have:=h.two h2;split <;> omega
 rename_i h2;have hm:=h.many h0 h1 h2 h4;split
 .rename_i h3;rcases GO (λ x=>decide (n=x)) t.cases with ⟨e,_⟩ | ⟨k,x,e,hx,_⟩
  .omega
  have:=(List.getElem?_eq_some_iff.1 hx).1;omega
 omega
structure F9 (u:Ao)(nh:Nat)(f:Ar):Prop where
 fn0:0<=f.fn
 blk0:0<=f.block
 code:∃F b,u.fns[f.fn.toNat]? =some F/\F.qa[f.block.toNat]? =some b/\0<=f.at_/\f.at_<=b.ins.length
 qc:∀e∈f.qc,okV u.fns.length nh e.2=true
structure MOk (u:Ao)(M:AE):Prop where
 frames:∀f∈M.stack,F9 u M.heap.length f
 heap:∀l∈M.heap,l.length<=1024/\∀v∈l,okV u.fns.length M.heap.length v=true
 out:M.out.length<=1000
 left0:0<=M.left
 left:M.left+M.stack.length<=1000001
def rho (A:List (Nat×Nat)):Nat->Nat:=λk=>(A[k]?.getD (0,0)).1
theorem Mi (A B:List (Nat×Nat)):∀k,k<A.length->rho A k=rho (A++B) k:=λk h=>by rw [rho,rho,List.getElem?_append_left h]
theorem Ady (A:List (Nat×Nat))(x:Nat×Nat):rho (A++ [x]) A.length=x.1:=by simp [rho]
theorem XX (nf nh:Nat)(b:Bool):okV nf nh (MJ b)=true:=by unfold MJ;split <;> exact FG _ _ _
theorem PF (nf nh:Nat)(op a b:Int):okV nf nh (Du op a b).1=true:=by
 unfold Du
 repeat' split
 all_goals first | exact FG _ _ _ | exact XX _ _ _ | exact CZ _ _
theorem XY {nf nh:Nat}{i:AQ}{args:List Val}(h:∀a∈args,okV nf nh a=true):okV nf nh (F4 i args).1=true:=by
 have ho:∀k,okV nf nh (Ah (Ah args 0).list k)=true:=λk=>Dq (HP.1 (Dq h 0)).2.2.2 k;unfold F4;dsimp only
 repeat' split
 all_goals first | exact FG _ _ _ | exact CZ _ _ | exact ho _
theorem SV (nf nh:Nat)(op:Int):∀(as bs:List Val),∀v∈Cy op as bs,okV nf nh v=true
 | a::as,b::bs,v,hv=>by
  rw [Cy] at hv;rcases Ya.1 hv with rfl | hv
  .exact PF _ _ _ _ _
  exact SV nf nh op as bs v hv
 | [],_,v,hv=>by simp [Cy] at hv
 | _::_,[],v,hv=>by simp [Cy] at hv
theorem QI {nf nh:Nat}{k n:Int}{l:List Val}(h2:k=2->0<=n/\n<nf)(h3:k≠3)(hl:l.length<=4096)(h:∀v∈l,okV nf nh v=true):okV nf nh (.mk k n l none)=true:=
 HP.2 ⟨by simp [Val.arr,Val.kind,HV,h3],h2,hl,h⟩
theorem XZ {nf nh:Nat}{i:AQ}{args:List Val}(hl:args.length<=4096)(h:∀a∈args,okV nf nh a=true):okV nf nh (F5 i args).1=true:=by
 have h0:=HP.1 (Dq h 0);unfold F5
 repeat' split
 all_goals first | exact CZ _ _ | exact Dq h0.2.2.2 _ | exact QI (λ h=>by cases h) (by decide) hl h | skip
 refine QI (λ h=>by cases h) (by decide) ?_ (SV nf nh _ _ _);exact Nat.le_trans (Lk _ _ _) h0.2.2.1
structure Hq (nf:Nat)(M M':AE)(v:Val):Prop where
 heap:∀l∈M'.heap,l.length<=1024/\∀v∈l,okV nf M'.heap.length v=true
 grows:M.heap.length<=M'.heap.length
 val:okV nf M'.heap.length v=true
 stack:M'.stack=M.stack
 out:M'.out.length<=1000
 left0:0<=M'.left
 left:M'.left<=M.left
structure Iz (nf:Nat)(M:AE):Prop where
 heap:∀l∈M.heap,l.length<=1024/\∀v∈l,okV nf M.heap.length v=true
 out:M.out.length<=1000
 left0:0<=M.left
theorem Iz.same {nf:Nat}{M:AE}(h:Iz nf M){v:Val}(hv:okV nf M.heap.length v=true):Hq nf M M v:=⟨h.heap,Ym _,hv,rfl,h.out,h.left0,Yn _⟩
theorem X0 {nf:Nat}{M:AE}(h:Iz nf M){n:Int}(hn:0<=n){v:Val}(hv:okV nf M.heap.length v=true):Hq nf M (Bw n M) v:=by
 have h0:=h.left0;unfold Bw;split
 .exact ⟨h.heap,Ym _,hv,rfl,h.out,h.left0,Yn _⟩
 exact⟨h.heap,Ym _,hv,rfl,h.out,by dsimp only;omega,by dsimp only;omega⟩
theorem UR {nf:Nat}{M:AE}(h:Iz nf M){size fill:Val}(hf:okV nf M.heap.length fill=true):Hq nf M (A7 size fill M).1 (A7 size fill M).2.1:=by
 unfold A7;split
 .exact h.same (CZ _ _)
 split
 .exact h.same (CZ _ _)
 rename_i h1 h2;have hp:=X0 h (n:=size.n) (by omega) (CZ nf M.heap.length);split
 .exact hp
 dsimp only;refine ⟨λ l hl=> ?_,by simp,?_,hp.stack,hp.out,hp.left0,hp.left⟩
 .simp only [List.length_append,List.length_cons,List.length_nil];rcases List.mem_append.1 hl with hl | hl
  .exact ⟨(h.heap l hl).1,λv hv=>Iy (by omega) v ((h.heap l hl).2 v hv)⟩
  rw [List.mem_singleton.1 hl,List.length_replicate];exact ⟨by omega,λv hv=>by rw [(List.mem_replicate.1 hv).2];exact Iy (by omega) _ hf⟩
 rw [okV,LY];simp [HV]
theorem SW {nf:Nat}{M:AE}(h:Iz nf M){v x:Val}{k:Nat}{w:Val}(hx:okV nf M.heap.length x=true)(hw:okV nf M.heap.length w=true):Hq nf M (C1 M v ((Fy M v).set k x)) w:=by
 unfold C1
 cases ha:v.arr with
 | none=>exact h.same hw
 | some j=>
  dsimp only;refine ⟨λ l hl=> ?_,by simp,by simpa using hw,rfl,h.out,h.left0,Yn _⟩;simp only [List.length_set];rcases Yl hl with hl | rfl
  .exact h.heap l hl
  have hao:Fy M v=(M.heap[j]?).getD []:=by rw [Fy,ha];rfl
  rw [hao,List.length_set]
  cases hj:M.heap[j]? with
  | none=>exact⟨by simp,λv hv=>by simp at hv⟩
  | some l=>
   have hl:=h.heap l (Ye hj);refine ⟨hl.1,λv hv=> ?_⟩;rcases Yl hv with hv | rfl
   .exact hl.2 v hv
   exact hx
theorem AbA {nf:Nat}{M:AE}(h:Iz nf M)(v:Val):∀x∈Fy M v,okV nf M.heap.length x=true:=by
 unfold Fy
 cases v.arr with
 | none=>intro x hx;simp at hx
 | some j=>
  cases hj:M.heap[j]? with
  | none=>intro x hx;simp [hj] at hx
  | some l=>intro x hx;simp [hj] at hx;exact(h.heap l (Ye hj)).2 x hx
theorem SX {nf:Nat}{M:AE}(h:Iz nf M){i:AQ}{args:List Val}(ha:∀a∈args,okV nf M.heap.length a=true):Hq nf M (AY i args M).1 (AY i args M).2.1:=by
 unfold AY;split
 .split
  .exact h.same (CZ _ _)
  split
  .exact h.same (CZ _ _)
  have:=h.out;exact ⟨h.heap,Ym _,FG _ _ _,rfl,by simp;omega,h.left0,Yn _⟩
 split
 .exact UR h (Dq ha 1)
 split
 .split
  .exact h.same (CZ _ _)
  split
  .exact h.same (CZ _ _)
  exact h.same (FG _ _ _)
 split
 .exact h.same (CZ _ _)
 split
 .exact h.same (FG _ _ _)
 split
 .exact h.same (CZ _ _)
 split
 .exact h.same (Dq (AbA h _) _)
 exact SW h (Dq ha 2) (FG _ _ _)
theorem YA {nf:Nat}{M:AE}(h:Iz nf M){i:AQ}{args:List Val}(hc:i.op=9->0<=i.n/\i.n<nf)(hl:args.length<=4096)(ha:∀a∈args,okV nf M.heap.length a=true):Hq nf M (AZ i args M).1 (AZ i args M).2.1:=by
 unfold AZ;split
 .exact h.same (FG _ _ _)
 split
 .split
  .exact h.same (CZ _ _)
  exact h.same (PF _ _ _ _ _)
 split
 .exact h.same (QI (λ h=>by cases h) (by decide) hl ha)
 split
 .rename_i h9;exact h.same (QI (λ _=>hc h9) (by decide) hl ha)
 split
 .exact h.same (XY ha)
 split
 .exact h.same (XZ hl ha)
 split
 .exact h.same (Dq ha 0)
 exact SX h ha
theorem Mj {nf nh:Nat}{x:Int}{v:Val}(hv:okV nf nh v=true):∀ {m:Cu},(∀e∈m,okV nf nh e.2=true)->∀e∈CM m x v,okV nf nh e.2=true
 | [],_,e,he=>by rw [CM,List.mem_singleton] at he;subst he;exact hv
 | (k,u)::m,h,e,he=>by
  rw [CM] at he;split at he
  .rcases Ya.1 he with rfl | he
   .exact hv
   exact h e (Yb _ he)
  rcases Ya.1 he with rfl | he
  .exact h _ (Yc ..)
  exact Mj hv (λ e he=>h e (Yb _ he)) e he
theorem NP {nf nh:Nat}:∀(ps:List Int) (vs:List Val) {m:Cu},(∀v∈vs,okV nf nh v=true)->(∀e∈m,okV nf nh e.2=true)->∀e∈Cd m ps vs,okV nf nh e.2=true
 | p::ps,v::vs,m,hv,h=>NP ps vs (λ x hx=>hv x (Yb _ hx)) (Mj (hv v (Yc ..)) h)
 | [],_,m,_,h=>h
 | _::_,[],m,_,h=>h
theorem Wk {nf nh:Nat}{m:Cu}(h:∀e∈m,okV nf nh e.2=true)(l:List Int):∀v∈AG m l,okV nf nh v=true:=λv hv=>by
 obtain⟨x,_,rfl⟩:=List.mem_map.1 hv;exact Mh x h
theorem F9.mono {u:Ao}{nh nh':Nat}{f:Ar}(h:F9 u nh f)(hn:nh<=nh'):F9 u nh' f:=⟨h.fn0,h.blk0,h.code,λe he=>Iy hn _ (h.qc e he)⟩
theorem YB {u:Ao}{nh:Nat}{f:Ar}{F:Ai}{t:BG}{e:Am}(h:F9 u nh f)(hF:u.fns[f.fn.toNat]? =some F)(ht:FO F t)(he:e∈t.to):F9 u nh (AM u f e):=by
 obtain⟨h0,⟨b,hb,hl⟩,_⟩:=ht.edges e he;exact ⟨h.fn0,h0,⟨F,b,hF,hb,Yn _,by show(0:Int)<=_;omega⟩,NP _ _ (Wk h.qc _) h.qc⟩
theorem US {u:Ao}(hU:UOk u){nh:Nat}{n to:Int}{args:List Val}(h0:0<=n)(h1:n<u.fns.length)(ha:∀a∈args,okV u.fns.length nh a=true):F9 u nh (Bk u n args to):=by
 obtain⟨F,hF⟩:=Ab u.fns n.toNat (by omega);obtain ⟨b,tl,hb⟩:=Yj (hU.ne F (Ye hF));exact ⟨h0,Yn _,⟨F,b,hF,by show F.qa[0]? =_;rw [hb];rfl,Yn _,by show(0:Int)<=_;omega⟩,NP _ _ ha λe he=>by cases he⟩
theorem Mk {u:Ao}{M:AE}(h:MOk u M)(e n:Int):MOk u (DU e n M):=⟨h.frames,h.heap,h.out,h.left0,h.left⟩
theorem NQ {t:BG}{k:Nat}(h:k<t.to.length):BO t k∈t.to:=by
 rw [BO,Yi h];exact List.getElem_mem h
theorem MOk.restack {u:Ao}{M:AE}(h:MOk u M){fs:List Ar}(hf:∀f∈fs,F9 u M.heap.length f)(hl:fs.length<=M.stack.length):MOk u { M with stack:=fs }:=
 ⟨hf,h.heap,h.out,h.left0,by have:=h.left;dsimp only;omega⟩
theorem Adz {u:Ao}{M:AE}(h:MOk u M){f:Ar}{fs:List Ar}(hst:M.stack=f::fs){F:Ai}{t:BG}(hF:u.fns[f.fn.toNat]? =some F)(ht:FO F t):MOk u (Bx u f t fs M):=by
 have hfo:=h.frames f (by rw [hst];exact Yc ..);have hfs:∀g∈fs,F9 u M.heap.length g:=λg hg=>h.frames g (by rw [hst];exact Yb _ hg)
 have goto:∀e∈t.to,MOk u { M with stack:=AM u f e::fs }:=λe he=>h.restack (λ g hg=>by
  rcases Ya.1 hg with rfl | hg
  .exact YB hfo hF ht he
  exact hfs g hg) (by rw [hst];simp)
 unfold Bx;split
 .exact Mk h _ _
 rename_i h4;split
 .rename_i h1;exact goto _ (NQ (ht.one h1))
 rename_i h1;split
 .unfold FJ;split
  .rename_i g gs;refine h.restack (λ x hx=> ?_) (by rw [hst];simp);rcases Ya.1 hx with rfl | hx
   .have hg:=hfs g (Yc ..);exact ⟨hg.fn0,hg.blk0,hg.code,Mj (Mh _ hfo.qc) hg.qc⟩
   exact hfs x (Yb _ hx)
  exact Mk (h.restack (λ x hx=>by cases hx) (by simp)) _ _
 rename_i h0;split
 .exact Mk h _ _
 have:=Fc ht (AN f.qc t.arg).n h0 h1 h4;exact goto _ (NQ (by omega))
theorem NR {u:Ao}(hU:UOk u){M:AE}(h:MOk u M)(hl:M.left+M.stack.length<=1000000){n to:Int}{args:List Val}(h0:0<=n)(h1:n<u.fns.length)(ha:∀a∈args,okV u.fns.length M.heap.length a=true):MOk u (Dv u n args to M):=by
 refine⟨λ g hg=> ?_,h.heap,h.out,h.left0,by show M.left+((M.stack.length+1:Nat):Int)<=_;omega⟩;rcases Ya.1 hg with rfl | hg
 .exact US hU h0 h1 ha
 exact h.frames g hg
theorem Afq {u:Ao}(hU:UOk u){M:AE}(h:MOk u M)(hl:M.left+M.stack.length<=1000000){f:Ar}{fs:List Ar}(hst:M.stack=f::fs){i:AQ}(hi:Wj u i):MOk u (D4 u f i fs M):=by
 have hfo:=h.frames f (by rw [hst];exact Yc ..);have ha:=Wk hfo.qc i.args;have hlen:(AG f.qc i.args).length=i.args.length:=by rw [AG,List.length_map]
 have hm:=hi.many;unfold D4;dsimp only;split
 .rename_i h13;have:=hi.call h13;exact NR hU h hl this.1 this.2.1 ha
 split
 .split
  .rename_i hc;have:=(HP.1 (Dq ha 0)).2.1 hc.1;exact NR hU h hl this.1 this.2 ha
  exact Mk h _ _
 have hp:=YA (i:=i) ⟨h.heap,h.out,h.left0⟩ hi.clos (by rw [hlen];exact hm) ha
 have key:∀M1:AE,M1.heap=(AZ i (AG f.qc i.args) M).1.heap->M1.out=(AZ i (AG f.qc i.args) M).1.out->M1.left=(AZ i (AG f.qc i.args) M).1.left->MOk u { M1 with stack:= { f with qc:=CM f.qc i.to (AZ i (AG f.qc i.args) M).2.1 }::fs }:=λM1 h1 h2 h3=>by
  refine⟨λ g hg=> ?_,by dsimp only;rw [h1];exact hp.heap,by dsimp only;rw [h2];exact hp.out,by dsimp only;rw [h3];exact hp.left0,?_⟩
  .dsimp only;rw [h1];rcases Ya.1 hg with rfl | hg
   .exact ⟨hfo.fn0,hfo.blk0,hfo.code,Mj hp.val λe he=>Iy hp.grows _ (hfo.qc e he)⟩
   exact(h.frames g (by rw [hst];exact Yb _ hg)).mono hp.grows
  dsimp only;rw [h3];have:=hp.left;rw [hst] at hl;simp at hl ⊢;omega
 split
 .exact key _ rfl rfl rfl
 exact key _ rfl rfl rfl
theorem QJ {u:Ao}(hU:UOk u){M:AE}(h:MOk u M)(hl:M.left+M.stack.length<=1000000):MOk u (As u M):=by
 unfold As;split
 .exact h
 rename_i f fs hst;dsimp only;have hfo:=h.frames f (by rw [hst];exact Yc ..);obtain ⟨F,b,hF,hb,hat0,hat⟩:=hfo.code;have hblk:Aw u f.fn f.block=b:=by rw [Aw,hF];simp [hb]
 have hFm:=Ye hF;have hbm:=Ye hb;rw [hblk];split
 .exact Adz h hst hF (hU.qb F hFm b hbm)
 rename_i hne;obtain ⟨i,hi⟩:=Ab b.ins f.at_.toNat (by omega);rw [hi,Option.getD_some];refine Afq (M:= { M with stack:= { f with at_:=f.at_+1 }::fs }) hU ?_ ?_ rfl (hU.ins F hFm b hbm i (Ye hi))
 .refine h.restack (λ g hg=> ?_) (by rw [hst];simp);rcases Ya.1 hg with rfl | hg
  .exact ⟨hfo.fn0,hfo.blk0,⟨F,b,hF,hb,by show(0:Int)<=f.at_+1;omega,by show f.at_+1<=_;omega⟩,hfo.qc⟩
  exact h.frames g (by rw [hst];exact Yb _ hg)
 show M.left+_<=_;rw [hst] at hl;simpa using hl
theorem NS {u:Ao}(hU:UOk u){M:AE}(h:MOk u M){f:Ar}{fs:List Ar}(hst:M.stack=f::fs)(ho:M.over=false):(As u M).over=true\/(As u M).stack≠ []:=by
 unfold As;rw [hst];dsimp only;split
 .unfold Bx;split
  .exact .inl rfl
  split
  .exact .inr (by simp)
  split
  .unfold FJ
   cases fs with
   | nil=>exact .inl rfl
   | cons g gs=>exact .inr (by simp)
  split
  .exact .inl rfl
  exact .inr (by simp)
 unfold D4;dsimp only;split
 .exact .inr (by simp [Dv])
 split
 .split
  .exact .inr (by simp [Dv])
  exact .inl rfl
 exact .inr (by simp)
def FH (d:BB):List Int:=d.map (·.1)
def GE (k:Int)(ps:List Int):BB:=ps.map λp=>(p,k,0)
def FX (k:Int):Int->List AQ->BB
 | _,[]=> []
 | n,i::is=>(i.to,k,n+1)::FX k (n+1) is
def IA (k:Int)(b:Aa):BB:=GE k b.params++FX k 0 b.ins
def Bg:Int->List Aa->BB
 | _,[]=> []
 | k,b::l=>IA k b++Bg (k+1) l
structure Hr (d:BB):Prop where
 nodup:(FH d).Nodup
 range:∀v∈FH d,0<=v/\v<=4095
theorem PG {v:Int}:∀ {d:BB},Cc d v=none↔v∉FH d
 | []=>by simp [Cc,FH]
 | (k,p)::d=>by
  have ih:=PG (v:=v) (d:=d);rw [Cc];split
  .rename_i h;subst h;simp [FH]
  rename_i h;rw [ih];simp [FH];exact λh1 h2=>h h2.symm
theorem Kx {v:Int}{p:Int×Int}{d:BB}(h:(By v p d).1=0)(hd:Hr d):(By v p d).2=d++ [(v,p)]/\Hr (d++ [(v,p)]):=by
 unfold By at h ⊢;split at h
 .cases h
 rename_i h1;split at h
 .cases h
 rename_i h2;rw [if_neg h1,if_neg h2];refine ⟨rfl,?_,?_⟩
 .have hn:Cc d v=none:=by
   cases hg:Cc d v with
   | none=>rfl
   | some x=>rw [hg] at h2;simp at h2
  have:=PG.1 hn;rw [FH,Yk];refine List.nodup_append.2 ⟨hd.nodup,by simp,λa ha b hb e=> ?_⟩;simp at hb;subst hb e;exact this ha
 intro x hx;rw [FH,Yk] at hx;rcases List.mem_append.1 hx with hx | hx
 .exact hd.range x hx
 simp at hx;subst hx;have h1:wi x 0 4095=true:=by simpa using h1
 exact C0.1 h1
theorem Ky {k:Int}:∀(ps:List Int) {d:BB},(BH k ps d).1=0->Hr d->(BH k ps d).2=d++GE k ps/\Hr (d++GE k ps)
 | [],d,_,hd=>by simp [BH,GE,hd]
 | p::ps,d,h,hd=>by
  rw [BH] at h ⊢;split at h
  .rename_i hc;exact absurd h hc
  rename_i hc;rw [if_neg hc];obtain ⟨e1,h1⟩:=Kx (Classical.not_not.1 hc) hd;rw [e1] at h ⊢;have:=Ky ps h h1;simpa [GE] using this
theorem NT {k:Int}:∀(l:List AQ) (n:Int) {d:BB},(Da k n l d).1=0->Hr d->(Da k n l d).2=d++FX k n l/\Hr (d++FX k n l)
 | [],n,d,_,hd=>by simp [Da,FX,hd]
 | i::l,n,d,h,hd=>by
  rw [Da] at h ⊢;split at h
  .rename_i hc;exact absurd h hc
  rename_i hc;rw [if_neg hc];obtain ⟨e1,h1⟩:=Kx (Classical.not_not.1 hc) hd;split at h
  .rename_i hf;exact absurd h hf
  rename_i hf;rw [if_neg hf];rw [e1] at h ⊢;have:=NT l (n+1) h h1;simpa [FX] using this
theorem SY {bs:List Aa}{k:Int}{b:Aa}{d:BB}(h:(Di bs k b d).1=0)(hd:Hr d):(Di bs k b d).2=d++IA k b/\Hr (d++IA k b):=by
 unfold Di at h ⊢;split at h
 .rename_i hc;exact absurd h hc
 rename_i hc;rw [if_neg hc];obtain ⟨e1,h1⟩:=Ky b.params (Classical.not_not.1 hc) hd;split at h
 .rename_i hc2;exact absurd h hc2
 rename_i hc2;rw [if_neg hc2];rw [e1] at hc2 ⊢;have:=NT b.ins 0 (Classical.not_not.1 hc2) h1;simpa [IA] using this
theorem Kz {bs:List Aa}:∀(l:List Aa) (k:Int) {d:BB},(Bv bs k l d).1=0->Hr d->(Bv bs k l d).2=d++Bg k l/\Hr (d++Bg k l)
 | [],k,d,_,hd=>by simp [Bv,Bg,hd]
 | b::l,k,d,h,hd=>by
  rw [Bv] at h ⊢;split at h
  .rename_i hc;exact absurd h hc
  rename_i hc;rw [if_neg hc];obtain ⟨e1,h1⟩:=SY (Classical.not_not.1 hc) hd;rw [e1] at h ⊢;have:=Kz l (k+1) h h1;simpa [Bg] using this
theorem YC:Hr []:=⟨List.nodup_nil,λv hv=>by cases hv⟩
theorem CA.defs {f:Ai}(h:CA f):(Bv f.qa 0 f.qa []).2=Bg 0 f.qa/\Hr (Bg 0 f.qa):=by simpa using Kz f.qa 0 h.qa YC
theorem CA.keys {f:Ai}(h:CA f):Hr (Bg 0 f.qa):=h.defs.2
theorem KA (a b:BB):FH (a++b)=FH a++FH b:=Yk
theorem SZ (k:Int)(ps:List Int):FH (GE k ps)=ps:=by simp [FH,GE,List.map_map,Function.comp_def]
theorem LL (k:Int):∀(n:Int) (l:List AQ),FH (FX k n l)=l.map (·.to)
 | n,[]=>rfl
 | n,i::l=>by rw [FX];show i.to::FH (FX k (n+1) l)=_;rw [LL k (n+1) l];rfl
theorem GW:∀(k:Int) (l:List Aa),FH (Bg k l)=l.flatMap λb=>b.params++b.ins.map (·.to)
 | k,[]=>rfl
 | k,b::l=>by rw [Bg,KA,GW (k+1) l,IA,KA,SZ,LL];rfl
theorem UT {l:List Int}(h:l.Nodup)(hr:∀v∈l,0<=v/\v<=4095):l.length<=4096:=by
 have:=h.length_le_of_subset (l₂:=(Yf 4096).map Int.ofNat) λv hv=>by
  have:=hr v hv;exact List.mem_map.2 ⟨v.toNat,List.mem_range.2 (by omega),by show((v.toNat:Nat):Int)=v;omega⟩
 simpa using this
theorem CA.block_params {f:Ai}(h:CA f){b:Aa}(hb:b∈f.qa):b.params.Nodup/\(∀v∈b.params,0<=v/\v<=4095)/\b.params.length<=4096:=by
 have hk:=h.keys;have hn:=hk.nodup;have hr:=hk.range;rw [GW] at hn hr
 have hsub:List.Sublist b.params (f.qa.flatMap λb=>b.params++b.ins.map (·.to)):=by
  obtain⟨l1,l2,e⟩:=List.append_of_mem hb;rw [e,List.flatMap_append,List.flatMap_cons];exact ((List.sublist_append_left _ _).trans (List.sublist_append_left _ _)).trans (List.sublist_append_right _ _)
 have h1:=hn.sublist hsub;have h2:=λv hv=>hr v (hsub.subset hv);exact ⟨h1,h2,UT h1 h2⟩
theorem Br {bs:List Aa}{k:Int}{b:Aa}(h:bs[k.toNat]? =some b):AI bs k=b.params:=by rw [AI,h];rfl
theorem UU {f:Ai}(h:CA f){b:Aa}(hb:b∈f.qa):FO f b.qb:=by
 have he:=CN (h.block hb).2;have hs:=he.shape;unfold Dh at hs;refine ⟨λ h1=> ?_,λh2=> ?_,λh0 h1 h2 h4=> ?_,λe hm=> ?_⟩
 .rw [if_neg (by omega),if_pos h1] at hs;simp at hs;omega
 .rw [if_neg (by omega),if_neg (by omega),if_pos h2] at hs;simp at hs;omega
 .rw [if_neg h0,if_neg h1,if_neg h2] at hs;split at hs
  .simp at hs;omega
  .first | cases hs | (rw [if_neg h4] at hs;cases hs)
 obtain⟨e1,e2,e3⟩:=he.edges e hm;obtain ⟨c,hc⟩:=Ab f.qa e.block.toNat (by omega);rw [Br hc] at e3;exact ⟨by omega,⟨c,hc,e3⟩,by rw [e3];exact(h.block_params (Ye hc)).2.2⟩
theorem AdA {i:AQ}(h:FQ i=0):De i=false/\A0 i=false/\GP i=true:=by
 unfold FQ at h;split at h
 .cases h
 rename_i h1;split at h
 .cases h
 rename_i h2;split at h
 .rename_i h3;exact⟨by simpa using h1,by simpa using h2,h3⟩
 cases h
theorem GF (x:Int):∀l:List Int,Bh x l=true↔x∈l
 | []=>by simp [Bh]
 | y::l=>by
  have:=GF x l;simp [Bh,this]
structure Afr (i:AQ):Prop where
 known:i.op∈ [0,1,2,3,4,5,6,7,8,9,10,11,12,13,14,15,16,17,18,19,20,21,22,23,24]
 none:i.op=0->i.args.length=0
 two:i.op∈op2->i.args.length=2
 one:i.op∈op1->i.args.length=1
 three:i.op=20->i.args.length=3
 pack:i.op=22->(i.args.length:Int)=i.n/\(i.n=2\/i.n=4)
 app:i.op=14->1<=i.args.length
 num:GP i=true
 many:i.args.length<=16
theorem NU (i:AQ):(i.op=0/\Cv i=(0,true))\/(i.op∈op2/\Cv i=(2,true))\/(i.op=20/\Cv i=(3,true))\/(i.op∈op1/\Cv i=(1,true))\/(i.op∈Rp/\Cv i=(-1,true))\/
  (i.op=22/\Cv i=(i.n,decide (i.n=2)||decide (i.n=4)))\/Cv i=(0,false):=by
 unfold Cv;split
 .rename_i h;exact .inl ⟨h,rfl⟩
 split
 .rename_i h;exact .inr (.inl ⟨(GF _ _).1 h,rfl⟩)
 split
 .rename_i h;exact .inr (.inr (.inl ⟨h,rfl⟩))
 split
 .rename_i h;exact .inr (.inr (.inr (.inl ⟨(GF _ _).1 h,rfl⟩)))
 split
 .rename_i h;exact .inr (.inr (.inr (.inr (.inl ⟨(GF _ _).1 h,rfl⟩))))
 split
 .rename_i h;exact .inr (.inr (.inr (.inr (.inr (.inl ⟨h,rfl⟩)))))
 exact .inr (.inr (.inr (.inr (.inr (.inr rfl)))))
theorem QK {i:AQ}(h:FQ i=0):Afr i:=by
 obtain⟨hb,hl,hn⟩:=AdA h;unfold De at hb;unfold A0 at hl;simp only [Bool.or_eq_false_iff,Bool.not_eq_false',Bool.and_eq_false_iff,decide_eq_false_iff_not] at hb hl;obtain ⟨⟨hk,hm⟩,ha⟩:=hb;rcases NU i with ⟨h1,e⟩ | ⟨h1,e⟩ | ⟨h1,e⟩ | ⟨h1,e⟩ | ⟨h1,e⟩ | ⟨h1,e⟩ | e <;> rw [e] at hk hm
 .simp at hm;refine ⟨?_,?_,?_,?_,?_,?_,?_,hn,?_⟩ <;> simp_all [op2,op1]
 .simp only [op2,Ya,Yd,or_false] at h1;refine ⟨?_,?_,?_,?_,?_,?_,?_,hn,?_⟩ <;> first | omega | (simp only [op1,op2,Ya,Yd,or_false];omega)
 .refine ⟨?_,?_,?_,?_,?_,?_,?_,hn,?_⟩ <;> first | omega | (simp only [op1,op2,Ya,Yd,or_false];omega)
 .simp only [op1,Ya,Yd,or_false] at h1;refine ⟨?_,?_,?_,?_,?_,?_,?_,hn,?_⟩ <;> first | omega | (simp only [op1,op2,Ya,Yd,or_false];omega)
 .simp only [Rp,Ya,Yd,or_false] at h1;refine ⟨?_,?_,?_,?_,?_,?_,?_,hn,?_⟩ <;> first | omega | (simp only [op1,op2,Ya,Yd,or_false];omega)
 .simp at hk;refine ⟨?_,?_,?_,?_,?_,?_,?_,hn,?_⟩ <;> first | omega | (simp only [op1,op2,Ya,Yd,or_false];omega)
 cases hk
theorem YD {i:AQ}(h:GP i=true)(ho:i.op=11\/i.op=24):0<=i.n:=by
 unfold GP at h;rcases ho with ho | ho
 .rw [if_neg (by omega),if_neg (by omega),if_pos ho] at h;exact (C0.1 h).1
 have e:Bh i.op [9,13]=false:=by simp [Bh,ho]
 rw [if_neg (by omega),if_neg (by omega),if_neg (by omega),if_neg (by rw [e];decide),if_neg (by omega),if_pos ho] at h;exact (C0.1 h).1
theorem PH {u:Ao}{i:AQ}(h:FQ i=0)(hc:CG u i=0):Wj u i:=by
 have hf:=QK h;have hk:=hf.known;have hm:=hf.many;have two:=hf.two;have one:=hf.one;have h3:=hf.three;have hp:=hf.pack;have hz:=hf.none;simp only [op1,op2,Ya,Yd,or_false] at hk two one
 have callc:i.op=13\/i.op=9->0<=i.n/\i.n<u.fns.length/\(i.op=13->(AT u i.n).length=i.args.length):=λho=>by
  unfold CG at hc;rw [if_neg (by omega)] at hc;split at hc
  .cases hc
  split at hc
  .cases hc
  rename_i h1 h2;refine ⟨UP h ho,by omega,λh13=> ?_⟩;apply Classical.byContradiction;intro hne;exact h2 (.inl ⟨h13,hne⟩)
 refine⟨λ h13 h14=>⟨?_,by omega,λht=> ?_,λho=> ?_,h3,λho=>YD hf.num ho⟩,λh13=> ?_,hf.app,λh9=> ?_,by omega⟩
 .rw [GF];simp only [Ya,Yd,or_false];omega
 .rw [GF] at ht;simp only [Ya,Yd,or_false] at ht;omega
 .rw [GF] at ho;simp only [Ya,Yd,or_false] at ho;omega
 .have:=callc (.inl h13);exact ⟨this.1,this.2.1,this.2.2 h13⟩
 have:=callc (.inr h9);exact ⟨this.1,this.2.1⟩
structure NV (u:Ao):Prop where
 pos:0<u.fns.length
 len:u.fns.length<=256
 main:0<=u.main/\u.main<u.fns.length
 fns:∀f∈u.fns,CA f
 entry:AT u u.main= []
 calls:∀f∈u.fns,∀b∈f.qa,∀i∈b.ins,CG u i=0
theorem GX {u:Ao}(h:Cm u=0):NV u:=by
 unfold Cm at h;split at h
 .cases h
 rename_i h1;split at h
 .cases h
 rename_i h2;split at h
 .cases h
 rename_i h3;split at h
 .rename_i hc;exact absurd h hc
 rename_i hc;split at h
 .cases h
 rename_i h5;have h3:wi u.main 0 (u.fns.length - 1)=true:=by simpa using h3
 have h3:=C0.1 h3;have h4:=C4 (Classical.not_not.1 hc);refine ⟨by omega,by omega,⟨h3.1,by omega⟩,λf hf=>Bf (h4 f hf),?_,λf hf b hb i hi=> ?_⟩
 .cases he:AT u u.main with
  | nil=>rfl
  | cons a l=>rw [he] at h5;simp at h5
 exact C4 (C4 (C4 h f hf) b hb) i hi
theorem NV.u {u:Ao}(h:NV u):UOk u:=
 ⟨h.main,h.entry,λf hf=>(h.fns f hf).ne,λf hf b hb=>UU (h.fns f hf) hb,λf hf b hb i hi=>PH (((h.fns f hf).block hb).1 i hi) (h.calls f hf b hb i hi)⟩
theorem PI {u:Ao}(hU:UOk u){fuel:Int}(h0:0<=fuel)(h1:fuel<=1000000):MOk u (Bd u fuel):=by
 have hm:MOk u ⟨[],fuel,false,false,[],0,0,[]⟩:=⟨λ f hf=>(by cases hf),λl hl=>(by cases hl),Nat.zero_le _,h0,(by show fuel+(0:Nat)<=1000001;omega)⟩;exact NR hU hm (by show fuel+(0:Nat)<=1000000;omega) hU.main.1 hU.main.2 λa ha=>(by cases ha)
theorem UV (a b:Val)(M:AE):(A7 a b M).1.left<=M.left:=by
 have hp:∀n:Int,0<=n->(Bw n M).left<=M.left:=λn hn=>by unfold Bw;split <;> dsimp only <;> omega
 unfold A7;split
 .exact Yn _
 split
 .exact Yn _
 rename_i h;split <;> exact hp _ (by omega)
theorem S5 (i:AQ)(args:List Val)(M:AE):(AY i args M).1.left<=M.left:=by
 have hs:∀v l,(C1 M v l).left<=M.left:=λv l=>by unfold C1;split <;> exact Yn _
 unfold AY;split
 .split
  .exact Yn _
  split <;> exact Yn _
 split
 .exact UV _ _ _
 split
 .split
  .exact Yn _
  split <;> exact Yn _
 split
 .exact Yn _
 split
 .exact Yn _
 split
 .exact Yn _
 split
 .exact Yn _
 exact hs _ _
theorem YE (i:AQ)(args:List Val)(M:AE):(AZ i args M).1.left<=M.left:=by
 unfold AZ;split
 .exact Yn _
 split
 .split <;> exact Yn _
 split
 .exact Yn _
 split
 .exact Yn _
 split
 .exact Yn _
 split
 .exact Yn _
 split
 .exact Yn _
 exact S5 _ _ _
theorem YF (u:Ao)(f:Ar)(t:BG)(fs:List Ar)(M:AE):(Bx u f t fs M).left=M.left:=by
 unfold Bx;split
 .rfl
 split
 .rfl
 split
 .unfold FJ;split <;> rfl
 split <;> rfl
theorem Fd (u:Ao)(M:AE):(As u M).left<=M.left:=by
 unfold As;split
 .exact Yn _
 dsimp only;split
 .rw [YF];exact Yn _
 unfold D4;dsimp only;split
 .exact Yn _
 split
 .split <;> exact Yn _
 split <;> exact YE _ _ _
theorem DC {u:Ao}{M:AE}(h:M.over=true):∀k,goF u k M=M
 | 0=>rfl
 | k+1=>by rw [goF,if_pos h]
theorem Fe {u:Ao}{M:AE}(h:M.over=false)(k:Nat)(hs:(Bw 1 M).short=true):goF u (k+1) M=Bw 1 M:=by rw [goF,if_neg (by rw [h];decide),if_pos hs]
theorem Ef {u:Ao}{M:AE}(h:M.over=false)(k:Nat)(hs:(Bw 1 M).short=false):goF u (k+1) M=goF u k (As u (Bw 1 M)):=by rw [goF,if_neg (by rw [h];decide),if_neg (by rw [hs];decide)]
theorem GY {M:AE}(hs:(Bw 1 M).short=false):Bw 1 M= { M with left:=M.left - 1 }/\1<=M.left:=by
 unfold Bw at hs ⊢;split at hs
 .cases hs
 rename_i h;rw [if_neg h];exact ⟨rfl,by omega⟩
theorem MOk.paid {u:Ao}{M:AE}(h:MOk u M)(h1:1<=M.left):MOk u { M with left:=M.left - 1 }:=⟨h.frames,h.heap,h.out,by show 0<=M.left - 1;omega,by have:=h.left;show M.left - 1+(M.stack.length:Int)<=1000001;omega⟩
theorem YG {u:Ao}(hU:UOk u){M:AE}(hM:MOk u M)(h1:1<=M.left)(ho:M.over=false)(hne:M.stack≠ []){k:Nat}(hk:M.left+1<=((k+1:Nat):Int)):(As u { M with left:=M.left - 1 }).over=true\/(As u { M with left:=M.left - 1 }).stack≠ []/\(As u { M with left:=M.left - 1 }).left+1<=k:=by
 obtain⟨f,fs,hst⟩:=Yj hne;rcases NS (M:= { M with left:=M.left - 1 }) hU (hM.paid h1) hst ho with h | h
 .exact .inl h
 have:=Fd u { M with left:=M.left - 1 };exact .inr ⟨h,by dsimp only at this;omega⟩
def Fin (M:AE):Prop:=0<=M.fin/\M.fin<=6/\(M.fin=0\/M.value=0)
def AbB (u:Ao):Prop:=∀f∈u.fns,∀b∈f.qa,b.qb.kind=4->1<=b.qb.n/\b.qb.n<=6
theorem NV.traps {u:Ao}(h:NV u):AbB u:=λf hf b hb hk=>(CN ((h.fns f hf).block hb).2).trap hk
theorem S6 (op a b:Int):0<=(Du op a b).2/\(Du op a b).2<=6:=by
 unfold Du
 repeat' split
 all_goals (dsimp only;omega)
theorem S7 (i:AQ)(args:List Val):0<=(F4 i args).2/\(F4 i args).2<=6:=by
 unfold F4;dsimp only
 repeat' split
 all_goals (dsimp only;omega)
theorem S8 (i:AQ)(args:List Val):0<=(F5 i args).2/\(F5 i args).2<=6:=by
 unfold F5
 repeat' split
 all_goals (dsimp only;omega)
theorem UW (a b:Val)(M:AE):0<=(A7 a b M).2.2/\(A7 a b M).2.2<=6:=by
 unfold A7
 repeat' split
 all_goals (dsimp only;omega)
theorem S9 (i:AQ)(args:List Val)(M:AE):0<=(AY i args M).2.2/\(AY i args M).2.2<=6:=by
 unfold AY;split
 .repeat' split
  all_goals (dsimp only;omega)
 .split
  .exact UW _ _ _
  .repeat' split
   all_goals (dsimp only;omega)
theorem YH (i:AQ)(args:List Val)(M:AE):0<=(AZ i args M).2.2/\(AZ i args M).2.2<=6:=by
 unfold AZ;split
 .dsimp only;omega
 split
 .split
  .dsimp only;omega
  exact S6 _ _ _
 split
 .dsimp only;omega
 split
 .dsimp only;omega
 split
 .exact S7 _ _
 split
 .exact S8 _ _
 split
 .dsimp only;omega
 exact S9 _ _ _
theorem Ta (a b:Val)(M:AE):(A7 a b M).1.fin=M.fin/\(A7 a b M).1.value=M.value:=by
 have hp:∀n,(Bw n M).fin=M.fin/\(Bw n M).value=M.value:=λn=>by unfold Bw;split <;> exact⟨rfl,rfl⟩
 unfold A7;split
 .exact ⟨rfl,rfl⟩
 split
 .exact ⟨rfl,rfl⟩
 split <;> exact hp _
theorem QL (i:AQ)(args:List Val)(M:AE):(AY i args M).1.fin=M.fin/\(AY i args M).1.value=M.value:=by
 have hs:∀v l,(C1 M v l).fin=M.fin/\(C1 M v l).value=M.value:=λv l=>by unfold C1;split <;> exact⟨rfl,rfl⟩
 unfold AY;split
 .split
  .exact ⟨rfl,rfl⟩
  split <;> exact⟨rfl,rfl⟩
 split
 .exact Ta _ _ _
 split
 .split
  .exact ⟨rfl,rfl⟩
  split <;> exact⟨rfl,rfl⟩
 split
 .exact ⟨rfl,rfl⟩
 split
 .exact ⟨rfl,rfl⟩
 split
 .exact ⟨rfl,rfl⟩
 split
 .exact ⟨rfl,rfl⟩
 exact hs _ _
theorem UX (i:AQ)(args:List Val)(M:AE):(AZ i args M).1.fin=M.fin/\(AZ i args M).1.value=M.value:=by
 unfold AZ;split
 .exact ⟨rfl,rfl⟩
 split
 .split <;> exact⟨rfl,rfl⟩
 split
 .exact ⟨rfl,rfl⟩
 split
 .exact ⟨rfl,rfl⟩
 split
 .exact ⟨rfl,rfl⟩
 split
 .exact ⟨rfl,rfl⟩
 split
 .exact ⟨rfl,rfl⟩
 exact QL _ _ _
theorem Fin.stop {M:AE}{e n:Int}(h0:0<=e)(h6:e<=6)(hv:e=0\/n=0):Fin (DU e n M):=⟨h0,h6,hv⟩
theorem AbC {u:Ao}(ht:AbB u){M:AE}(h:MOk u M)(hf:Fin M):Fin (As u M):=by
 unfold As;split
 .exact hf
 rename_i f fs hst;dsimp only;have hfo:=h.frames f (by rw [hst];exact Yc ..);obtain ⟨F,b,hF,hb,hat0,hat⟩:=hfo.code;have hblk:Aw u f.fn f.block=b:=by rw [Aw,hF];simp [hb]
 rw [hblk];split
 .unfold Bx;split
  .rename_i h4;have:=ht F (Ye hF) b (Ye hb) h4;exact Fin.stop (by omega) this.2 (.inr rfl)
  split
  .exact hf
  split
  .unfold FJ;split
   .exact hf
   exact Fin.stop (by omega) (by omega) (.inl rfl)
  split
  .exact Fin.stop (by omega) (by omega) (.inr rfl)
  exact hf
 unfold D4;dsimp only;split
 .exact hf
 split
 .split
  .exact hf
  exact Fin.stop (by omega) (by omega) (.inr rfl)
 split
 .have:=YH (b.ins[f.at_.toNat]?.getD default) (AG f.qc (b.ins[f.at_.toNat]?.getD default).args) { M with stack:= { f with at_:=f.at_+1 }::fs };exact ⟨this.1,this.2, .inr rfl⟩
 have:=UX (b.ins[f.at_.toNat]?.getD default) (AG f.qc (b.ins[f.at_.toNat]?.getD default).args) { M with stack:= { f with at_:=f.at_+1 }::fs };unfold Fin;dsimp only;rw [this.1,this.2];exact hf
theorem QM {u:Ao}(P:AE->Prop)(hp:∀M,P M->M.over=false->(Bw 1 M).short=true->P (Bw 1 M))(hs:∀M,P M->M.over=false->1<=M.left->P (As u { M with left:=M.left - 1 })):∀(k:Nat) (M:AE),P M->P (goF u k M)
 | 0,M,h=>h
 | k+1,M,h=>by
  cases ho:M.over with
  | true=>rw [DC ho];exact h
  | false=>
   cases hsh:(Bw 1 M).short with
   | true=>rw [Fe ho k hsh];exact hp M h ho hsh
   | false=>
    have:=GY hsh;rw [Ef ho k hsh,this.1];exact QM P hp hs k _ (hs M h ho this.2)
theorem UY (n:Int)(M:AE):(Bw n M).out=M.out/\(Bw n M).fin=M.fin/\(Bw n M).value=M.value/\(Bw n M).stack=M.stack/\(Bw n M).heap=M.heap:=by
 unfold Bw;split <;> exact⟨rfl,rfl,rfl,rfl,rfl⟩
theorem LZ {M:AE}(h:(Bw 1 M).short=true)(hs:M.short=false):Bw 1 M= { M with short:=true,over:=true }:=by
 unfold Bw at h ⊢;split at h
 .rename_i hc;rw [if_pos hc]
 rw [hs] at h;cases h
def On (u:Ao)(M:AE):Prop:=MOk u M/\(M.over=true\/M.stack≠ [])
theorem I2 {u:Ao}(hU:UOk u){M:AE}(h:On u M)(ho:M.over=false)(h1:1<=M.left):On u (As u { M with left:=M.left - 1 }):=by
 obtain⟨hM,hov⟩:=h;have hne:=hov.resolve_left (by rw [ho];decide);obtain ⟨f,fs,hst⟩:=Yj hne;have hl:=hM.left;have hm:MOk u { M with left:=M.left - 1 }:=hM.paid h1;exact ⟨QJ hU hm (by show M.left - 1+(M.stack.length:Int)<=1000000;omega),NS (M:= { M with left:=M.left - 1 }) hU hm hst ho⟩
theorem Tb {u:Ao}{M:AE}(h:On u M)(ho:M.over=false)(hs:(Bw 1 M).short=true):On u (Bw 1 M):=by
 obtain⟨hM,hov⟩:=h;unfold Bw;split
 .exact ⟨⟨hM.frames,hM.heap,hM.out,hM.left0,hM.left⟩, .inl rfl⟩
 rename_i hc;exact ⟨hM.paid (by omega),hov⟩
theorem GG {u:Ao}(hU:UOk u){fuel:Int}(h0:0<=fuel)(h1:fuel<=1000000):On u (Bd u fuel):=⟨PI hU h0 h1, .inr (by simp [Bd,Dv])⟩
theorem QN {u:Ao}(hU:UOk u){fuel:Int}(h0:0<=fuel)(h1:fuel<=1000000)(k:Nat):On u (goF u k (Bd u fuel)):=
 QM (On u) (λ M h ho hs=>Tb h ho hs) (λ M h ho h1=>I2 hU h ho h1) k _ (GG hU h0 h1)
theorem NW (u:Ao):∀(k:Nat) (M:AE),(goF u k M).left<=M.left
 | 0,M=>Yn _
 | k+1,M=>by
  cases ho:M.over with
  | true=>rw [DC ho];exact Yn _
  | false=>
   cases hsh:(Bw 1 M).short with
   | true=>
    rw [Fe ho k hsh];unfold Bw;split <;> dsimp only <;> omega
   | false=>
    have:=GY hsh;rw [Ef ho k hsh,this.1];have h1:=NW u k (As u { M with left:=M.left - 1 });have h2:=Fd u { M with left:=M.left - 1 };dsimp only at h2;omega
theorem AbD (u:Ao){M:AE}(ho:M.over=false)(hs:M.short=false)(h1:1<=M.left)(k:Nat):(goF u (k+1) M).left<=M.left - 1:=by
 have hsf:(Bw 1 M).short=false:=by
  unfold Bw;rw [if_neg (by omega)];exact hs
 rw [Ef ho k hsf,(GY hsf).1];have h1:=NW u k (As u { M with left:=M.left - 1 });have h2:=Fd u { M with left:=M.left - 1 };dsimp only at h2;omega
theorem AbE (u:Ao)(fuel:Int):((Cj u fuel).2.2≠0->(Cj u fuel).2.1=0/\(Cj u fuel).1=⟨[],0,0⟩)/\
  ((Cj u fuel).2.2=0->(Cj u fuel).1.out.length<=1000/\0<=(Cj u fuel).1.fin/\(Cj u fuel).1.fin<=6/\((Cj u fuel).1.fin=0\/(Cj u fuel).1.value=0)/\1<=(Cj u fuel).2.1):=by
 unfold Cj;split
 .rename_i h;exact⟨λ _=>⟨rfl,rfl⟩,λh'=>absurd h' h⟩
 rename_i hu;split
 .exact ⟨λ _=>⟨rfl,rfl⟩,λh'=>by cases h'⟩
 rename_i hw;have hu:=GX (Classical.not_not.1 hu);have hw:wi fuel 1 1000000=true:=by simpa using hw
 have hw:=C0.1 hw;unfold BY;dsimp only;split
 .exact ⟨λ _=>⟨rfl,rfl⟩,λh'=>by cases h'⟩
 rename_i hsh;refine ⟨λ h'=>absurd rfl h',λ_=> ?_⟩;have hg:=QN hu.u (fuel:=fuel) (by omega) hw.2 (fuel.toNat+1)
 have hP:Fin (goF u (fuel.toNat+1) (Bd u fuel)):=(QM (λ M=>On u M/\Fin M) (λ M h ho hs=>⟨Tb h.1 ho hs,by
  have:=UY 1 M;unfold Fin;rw [this.2.1,this.2.2.1];exact h.2⟩) (λ M h ho h1=>⟨I2 hu.u h.1 ho h1,AbC hu.traps (h.1.1.paid h1) h.2⟩) (fuel.toNat+1) (Bd u fuel) ⟨GG hu.u (by omega) hw.2,(by show(0:Int)<=0;decide),(by show(0:Int)<=6;decide), .inl rfl⟩).2
 refine⟨hg.1.out,hP.1,hP.2.1,hP.2.2,?_⟩;have:=AbD u (M:=Bd u fuel) rfl rfl (by show 1<=fuel;omega) fuel.toNat;have e:(Bd u fuel).left=fuel:=rfl;dsimp only;omega
def AO (d:Int)(M:AE):AE:= { M with left:=M.left+d }
theorem UZ (a b:Val)(M:AE)(d:Int)(hs:M.short=false)(h:(A7 a b M).1.short=false):
  (0<=(A7 a b M).1.left+d->0<=M.left+d->A7 a b (AO d M)=(AO d (A7 a b M).1,(A7 a b M).2))/\(0<=M.left+d->(A7 a b M).1.left+d<0->(A7 a b (AO d M)).1.short=true/\(A7 a b (AO d M)).1.over=true/\(A7 a b (AO d M)).2.2=0):=by
 unfold A7 at h ⊢;split at h
 .rename_i h1;rw [if_pos h1,if_pos h1];exact ⟨λ _ _=>rfl,λh2 h3=>by dsimp only at h3;omega⟩
 rename_i h1;rw [if_neg h1,if_neg h1];split at h
 .rename_i h2;rw [if_pos h2,if_pos h2];exact ⟨λ _ _=>rfl,λh2 h3=>by dsimp only at h3;omega⟩
 rename_i h2;rw [if_neg h2,if_neg h2];split at h
 .rename_i h3;rw [h3] at h;cases h
 rename_i h3;rw [if_neg h3]
 have hp:Bw a.n M= { M with left:=M.left - a.n }:=by
  unfold Bw at h3 ⊢;split at h3
  .exact absurd rfl h3
  rename_i hc;rw [if_neg hc]
 rw [hp];dsimp only;constructor
 .intro h4 h5
  have hq:Bw a.n (AO d M)= { M with left:=M.left+d - a.n }:=by
   unfold Bw;rw [if_neg (by show ¬M.left+d<a.n;omega)];rfl
  rw [hq,if_neg (by show ¬M.short=true;rw [hs];decide)];unfold AO;simp only [Prod.mk.injEq,AE.mk.injEq,true_and,and_true];omega
 intro h4 h5
 have hq:Bw a.n (AO d M)= { AO d M with short:=true,over:=true }:=by
  unfold Bw;rw [if_pos (by show M.left+d<a.n;omega)]
 rw [hq,if_pos rfl];exact ⟨rfl,rfl,rfl⟩
theorem KB (i:AQ)(args:List Val)(M:AE)(d:Int)(h16:i.op≠16):AZ i args (AO d M)=(AO d (AZ i args M).1,(AZ i args M).2)/\(AZ i args M).1.left=M.left/\(AZ i args M).1.short=M.short/\(AZ i args M).1.over=M.over:=by
 have hs:∀v l,C1 (AO d M) v l=AO d (C1 M v l):=λv l=>by unfold C1;split <;> rfl
 have hs2:∀v l,(C1 M v l).left=M.left/\(C1 M v l).short=M.short/\(C1 M v l).over=M.over:=λv l=>by unfold C1;split <;> exact⟨rfl,rfl,rfl⟩
 have ha:∀v,Fy (AO d M) v=Fy M v:=λv=>rfl;have ho:(AO d M).out=M.out:=rfl
 have key:AY i args (AO d M)=(AO d (AY i args M).1,(AY i args M).2)/\(AY i args M).1.left=M.left/\(AY i args M).1.short=M.short/\(AY i args M).1.over=M.over:=by
  unfold AY;rw [ha,ho,if_neg h16,if_neg h16];split
  .split
   .exact ⟨rfl,rfl,rfl,rfl⟩
   split <;> exact⟨rfl,rfl,rfl,rfl⟩
  split
  .split
   .exact ⟨rfl,rfl,rfl,rfl⟩
   split <;> exact⟨rfl,rfl,rfl,rfl⟩
  split
  .exact ⟨rfl,rfl,rfl,rfl⟩
  split
  .exact ⟨rfl,rfl,rfl,rfl⟩
  split
  .exact ⟨rfl,rfl,rfl,rfl⟩
  split
  .exact ⟨rfl,rfl,rfl,rfl⟩
  exact⟨by rw [hs],hs2 _ _⟩
 unfold AZ;split
 .exact ⟨rfl,rfl,rfl,rfl⟩
 split
 .split <;> exact⟨rfl,rfl,rfl,rfl⟩
 split
 .exact ⟨rfl,rfl,rfl,rfl⟩
 split
 .exact ⟨rfl,rfl,rfl,rfl⟩
 split
 .exact ⟨rfl,rfl,rfl,rfl⟩
 split
 .exact ⟨rfl,rfl,rfl,rfl⟩
 split
 .exact ⟨rfl,rfl,rfl,rfl⟩
 exact key
theorem QO {i:AQ}(args:List Val)(M:AE)(h:i.op=16):AZ i args M=A7 (Ah args 0) (Ah args 1) M:=by
 unfold AZ AY;simp [h,Bh]
theorem Ll (i:AQ)(args:List Val)(M:AE)(d:Int)(hs:M.short=false)(h:(AZ i args M).1.short=false)(hd:0<=M.left+d):
  (0<=(AZ i args M).1.left+d->AZ i args (AO d M)=(AO d (AZ i args M).1,(AZ i args M).2))/\((AZ i args M).1.left+d<0->(AZ i args (AO d M)).1.short=true/\(AZ i args (AO d M)).1.over=true/\(AZ i args (AO d M)).2.2=0):=by
 by_cases h16:i.op=16
 .rw [QO args M h16] at h ⊢;rw [QO args (AO d M) h16];have:=UZ (Ah args 0) (Ah args 1) M d hs h;exact ⟨λ h1=>this.1 h1 hd,λh1=>this.2 hd h1⟩
 have:=KB i args M d h16;exact ⟨λ _=>this.1,λh1=>by rw [this.2.1] at h1;omega⟩
theorem U0 {i:AQ}{args:List Val}{M:AE}(hs:M.short=false)(h:(AZ i args M).1.short=true):(AZ i args M).1.over=true/\(AZ i args M).2.2=0:=by
 by_cases h16:i.op=16
 .rw [QO args M h16] at h ⊢;unfold A7 at h ⊢;split at h
  .rw [hs] at h;cases h
  rename_i h1;rw [if_neg h1];split at h
  .rw [hs] at h;cases h
  rename_i h2;rw [if_neg h2];split at h
  .rename_i h3;rw [if_pos h3];unfold Bw at h3 ⊢;split at h3
   .rename_i hc;rw [if_pos hc];exact⟨rfl,rfl⟩
   rw [hs] at h3;cases h3
  rename_i h3;exact absurd h h3
 have:=(KB i args M 0 h16).2.2.1;rw [this,hs] at h
 cases h
theorem PJ (u:Ao)(f:Ar)(t:BG)(fs:List Ar)(M:AE)(d:Int):Bx u f t fs (AO d M)=AO d (Bx u f t fs M)/\(Bx u f t fs M).left=M.left/\(Bx u f t fs M).short=M.short:=by
 unfold Bx;split
 .exact ⟨rfl,rfl,rfl⟩
 split
 .exact ⟨rfl,rfl,rfl⟩
 split
 .unfold FJ
  cases fs <;> exact⟨rfl,rfl,rfl⟩
 split <;> exact⟨rfl,rfl,rfl⟩
theorem PK {u:Ao}{M:AE}{d:Int}(hs:M.short=false)(h:(As u M).short=false)(hd:0<=M.left+d):
  (0<=(As u M).left+d->As u (AO d M)=AO d (As u M))/\((As u M).left+d<0->(As u (AO d M)).short=true/\(As u (AO d M)).over=true):=by
 unfold As at h ⊢
 cases hst:M.stack with
 | nil=>
  have h2:(AO d M).stack= []:=hst;rw [h2];exact ⟨λ _=>rfl,λh3=>by dsimp only at h3;omega⟩
 | cons f fs=>
  have h2:(AO d M).stack=f::fs:=hst;rw [h2];rw [hst] at h;dsimp only at h ⊢;split
  .have:=PJ u f (Aw u f.fn f.block).qb fs M d;exact ⟨λ _=>this.1,λh3=>by rw [this.2.1] at h3;omega⟩
  rename_i hne;rw [if_neg hne] at h;have e:({ AO d M with stack:= { f with at_:=f.at_+1 }::fs }:AE)=AO d { M with stack:= { f with at_:=f.at_+1 }::fs }:=rfl;rw [e];generalize hM1:({ M with stack:= { f with at_:=f.at_+1 }::fs }:AE)=M1 at h ⊢;have hs1:M1.short=false:=by rw [<- hM1];exact hs
  have hd1:0<=M1.left+d:=by rw [<- hM1];exact hd
  generalize (Aw u f.fn f.block).ins[f.at_.toNat]?.getD default=i at h ⊢;unfold D4 at h ⊢;dsimp only at h ⊢;split
  .exact ⟨λ _=>rfl,λh3=>by have h3:M1.left+d<0:=h3;omega⟩
  rename_i h13;rw [if_neg h13] at h;split
  .split
   .exact ⟨λ _=>rfl,λh3=>by have h3:M1.left+d<0:=h3;omega⟩
   exact⟨λ _=>rfl,λh3=>by have h3:M1.left+d<0:=h3;omega⟩
  rename_i h14;rw [if_neg h14] at h
  have hsh:(AZ i (AG f.qc i.args) M1).1.short=false:=by
   split at h <;> exact h
  have:=Ll i (AG f.qc i.args) M1 d hs1 hsh hd1;constructor
  .intro h3;have h4:0<=(AZ i (AG f.qc i.args) M1).1.left+d:=by split at h3 <;> exact h3
   rw [this.1 h4];dsimp only;split <;> rfl
  intro h3;have h4:(AZ i (AG f.qc i.args) M1).1.left+d<0:=by split at h3 <;> exact h3
  have h5:=this.2 h4;rw [if_neg (by rw [h5.2.2];decide)];exact ⟨h5.1,h5.2.1⟩
theorem JD {u:Ao}{M:AE}(hs:M.short=false)(h:(As u M).short=true):(As u M).over=true:=by
 unfold As at h ⊢
 cases hst:M.stack with
 | nil=>rw [hst] at h;dsimp only at h;rw [hs] at h;cases h
 | cons f fs=>
  rw [hst] at h;dsimp only at h ⊢;split at h
  .rename_i hc;rw [(PJ u f (Aw u f.fn f.block).qb fs M 0).2.2,hs] at h
   cases h
  rename_i hne;rw [if_neg hne];generalize hM1:({ M with stack:= { f with at_:=f.at_+1 }::fs }:AE)=M1 at h ⊢;have hs1:M1.short=false:=by rw [<- hM1];exact hs
  generalize (Aw u f.fn f.block).ins[f.at_.toNat]?.getD default=i at h ⊢;unfold D4 at h ⊢;dsimp only at h ⊢;split at h
  .have h:M1.short=true:=h;rw [hs1] at h;cases h
  rename_i h13;rw [if_neg h13];split at h
  .rename_i h14;rw [if_pos h14];split at h
   .have h:M1.short=true:=h;rw [hs1] at h;cases h
   rename_i hc;rw [if_neg hc];rfl
  rename_i h14;rw [if_neg h14];split at h
  .rename_i hc;rw [if_pos hc];rfl
  rename_i hc;rw [if_neg hc];exact (U0 hs1 h).1
theorem QP {u:Ao}{d:Int}:∀(k:Nat) (M:AE),M.short=false->M.over=false->(goF u k M).over=true->(goF u k M).short=false->0<=M.left+d->∀k':Nat,M.left+d+1<=k'->
  (0<=(goF u k M).left+d->goF u k' (AO d M)=AO d (goF u k M))/\((goF u k M).left+d<0->(goF u k' (AO d M)).short=true)
 | 0,M,_,ho,h,_,_,_,_=>by
  have h:M.over=true:=h;rw [ho] at h
  cases h
 | k+1,M,hs,ho,hov,hsh,hd,k',hk=>by
  obtain⟨k',rfl⟩:∃j,k'=j+1:=⟨k' - 1,by omega⟩;have hoA:(AO d M).over=false:=ho
  cases hp:(Bw 1 M).short with
  | true=>
   rw [Fe ho k hp] at hsh;rw [hp] at hsh
   cases hsh
  | false=>
   obtain⟨e1,hl1⟩:=GY hp;rw [Ef ho k hp,e1] at hov hsh ⊢;have hle:=NW u k (As u { M with left:=M.left - 1 });have hst:=Fd u { M with left:=M.left - 1 };dsimp only at hst
   by_cases hz:M.left+d<1
   .have hpA:(Bw 1 (AO d M)).short=true:=by
     unfold Bw;rw [if_pos (by show M.left+d<1;exact hz)]
    rw [Fe hoA k' hpA];exact ⟨λ h=>by omega,λ_=>hpA⟩
   have hpA:(Bw 1 (AO d M)).short=false:=by
    unfold Bw;rw [if_neg (by show ¬M.left+d<1;exact hz)];exact hs
   have e2:=(GY hpA).1
   have e3:({ AO d M with left:=(AO d M).left - 1 }:AE)=AO d { M with left:=M.left - 1 }:=by
    unfold AO;simp only [AE.mk.injEq,true_and,and_true];omega
   rw [Ef hoA k' hpA,e2,e3];have hs1:({ M with left:=M.left - 1 }:AE).short=false:=hs;have hd1:0<=({ M with left:=M.left - 1 }:AE).left+d:=by dsimp only;omega
   generalize hM1:({ M with left:=M.left - 1 }:AE)=M1 at *;have hl2:M1.left=M.left - 1:=by rw [<- hM1]
   cases ho2:(As u M1).over with
   | true=>
    rw [DC ho2] at hov hsh ⊢;have:=PK (d:=d) hs1 hsh hd1;constructor
    .intro h;rw [this.1 h];exact DC (M:=AO d (As u M1)) ho2 _
    intro h;have:=this.2 h;rw [DC this.2];exact this.1
   | false=>
    have hs2:(As u M1).short=false:=by
     cases hx:(As u M1).short with
     | false=>rfl
     | true=>rw [JD hs1 hx] at ho2;cases ho2
    have:=PK (d:=d) hs1 hs2 hd1
    by_cases hz2:(As u M1).left+d<0
    .have h5:=this.2 hz2;rw [DC h5.2];exact ⟨λ h=>by omega,λ_=>h5.1⟩
    rw [this.1 (by omega)];exact QP k (As u M1) hs2 ho2 hov hsh (by omega) k' (by omega)
theorem Ml {u:Ao}(hU:UOk u):∀(k:Nat) (M:AE),On u M->(M.over=false->M.short=false)->M.left+1<=k->(goF u k M).over=true
 | 0,M,hg,_,h=>by have:=hg.1.left0;omega
 | k+1,M,hg,hso,h=>by
  cases ho:M.over with
  | true=>rw [DC ho];exact ho
  | false=>
   cases hp:(Bw 1 M).short with
   | true=>
    rw [Fe ho k hp,LZ hp (hso ho)]
   | false=>
    obtain⟨e,h1⟩:=GY hp;rw [Ef ho k hp,e];have:=Fd u { M with left:=M.left - 1 };dsimp only at this;refine Ml hU k _ (I2 hU hg ho h1) (λ h2=> ?_) (by omega)
    cases hx:(As u { M with left:=M.left - 1 }).short with
    | false=>rfl
    | true=>
     have:=JD (M:= { M with left:=M.left - 1 }) (hso ho) hx;rw [h2] at this
     cases this
theorem NX (u:Ao)(a d:Int):AO d (Bd u a)=Bd u (a+d):=rfl
theorem LM {u:Ao}(hu:Cm u=0){f:Int}(h1:1<=f)(h2:f<=1000000):Cj u f=BY u f:=by
 unfold Cj;rw [if_neg (by rw [hu];decide),if_neg (by rw [C0.2 ⟨h1,h2⟩];decide)]
theorem Ew (u:Ao)(f:Int):BY u f=if (goF u (f.toNat+1) (Bd u f)).short then (⟨[],0,0⟩,0,13) else (⟨(goF u (f.toNat+1) (Bd u f)).out,(goF u (f.toNat+1) (Bd u f)).fin,(goF u (f.toNat+1) (Bd u f)).value⟩,f - (goF u (f.toNat+1) (Bd u f)).left,0):=rfl
theorem QR {u:Ao}(hU:UOk u){a b:Int}(ha:1<=a)(ha2:a<=1000000)(hb:0<=b)(h:(BY u a).2.2=0):((BY u a).2.1<=b->BY u b=BY u a)/\(b<(BY u a).2.1->(BY u b).2.2=13):=by
 have hov:=Ml hU (a.toNat+1) (Bd u a) (GG hU (by omega) ha2) (λ _=>rfl) (by show a+1<=_;omega);rw [Ew] at h ⊢;rw [Ew u b];split at h
 .cases h
 rename_i hsh;have hsh:(goF u (a.toNat+1) (Bd u a)).short=false:=by simpa using hsh
 rw [if_neg (by rw [hsh];decide)];have key:=QP (d:=b - a) (a.toNat+1) (Bd u a) rfl rfl hov hsh (by show 0<=a+(b - a);omega) (b.toNat+1) (by show a+(b - a)+1<=_;omega);rw [NX,show a+(b - a)=b by omega] at key;generalize goF u (a.toNat+1) (Bd u a)=Mf at *;constructor
 .intro h1;dsimp only at h1;rw [key.1 (by omega)];rw [if_neg (by show ¬Mf.short=true;rw [hsh];decide)];show (_,b - (Mf.left+(b - a)),(0:Int))=(_,a - Mf.left,0);rw [show b - (Mf.left+(b - a))=a - Mf.left by omega];rfl
 intro h1;dsimp only at h1;rw [if_pos (key.2 (by omega))]
end Go.SM
end
