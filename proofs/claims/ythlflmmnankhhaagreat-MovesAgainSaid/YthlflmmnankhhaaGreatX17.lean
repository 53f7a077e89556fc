import Derived.Test.YthlflmmnankhhaaGreatVI
import Derived.Test.YthlflmmnankhhaaGreatDZ
import Derived.Test.YthlflmmnankhhaaGreatXD
set_option maxRecDepth 100000
set_option maxHeartbeats 16000000
open Go.VL.Drops renaming keep → Dk
set_option linter.all false
open List renaming length_append → Ya, take_length → Yb, append_nil → Yc, map_append → Yd, drop_drop → Ye, getElem?_eq_some_iff → Yf, length_eraseIdx → Yg, length_singleton → Yh
open Nat renaming zero_le → Yi
namespace Go.Proofs.YthlflmmnankhhaaGreat.X17
open Go.VL Go.SM Go.Proofs.YthlflmmnankhhaaGreat X1 X2 X3 X4 X5 X6 X7 X8 X9 X10 VT Tryz
theorem AfF {l:List Mv}{rest:List V}{k:Nat}(h:k<l.length):Nat.ble (k*2+1+1) (mvL l++rest).length=true:=Nat.ble_eq_true_of_le (by rw [Ya,ER];omega)
theorem Acc {l:List Mv}{rest:List V}{k:Nat}(p:Mv):((l.map mvV).set k (.agg [.int p.1, .int p.2])).flatMap V.leaves++rest=mvL (l.set k p)++rest:=by
  show((l.map mvV).set k (mvV p)).flatMap V.leaves++rest=_;rw [<- List.map_set]
theorem Acd {a b c:Own}: [a,b,c].Perm ([b,a]++ [c]):= .swap _ _ _
theorem AdR {a b:Own}: [a,b].Perm [b,a]:= .swap _ _ _
theorem Cb.perm {f:FuncId}{vs:List V}{S S':Af}{r:V}(h:Cb prog f vs S r)(hp:S'.Perm S):Cb prog f vs S' r:=
  AB λm w us hu hw=>(h m w us hu (hw.perm hp)).mono λe w' ⟨r',S1,m',u,⟨h1,h2⟩,he,hr,st⟩=>⟨r',S',m',u,⟨S',Drops.refl _,h1,rfl⟩,he,hr,((by rw [h2] at st;exact st:A2 m S w m' S w').permL hp).permR hp.symm⟩
def EI (p:Mv->Bool)(l:List Mv):List Mv:=l.filter λx=> !(p x)
theorem Ob {p:Mv->Bool}{l:List Mv}{k:Nat}(h:(l.take k).any p=false):EI p (l.take k)=l.take k:=by
  rw [EI,List.filter_eq_self];intro a ha;have:=List.any_eq_false.1 h a ha;simpa using this
theorem Oc {p:Mv->Bool}{l:List Mv}{i:Int}(h:idxOf p l=i):i= -1/\l.any p=false\/∃(k:Nat) (x:Mv),i=k/\l[k]? =some x/\p x=true/\(l.take k).any p=false:=by
  by_cases hn:l.any p=false
  . have h2:=El p hn;exact .inl ⟨by rw [<- h,h2],hn⟩
  . right
    have:∀(n:Nat),n<=l.length->(l.take n).any p=false\/∃(k:Nat) (x:Mv),l[k]? =some x/\p x=true/\(l.take k).any p=false:=λn=>by
      induction n with
      | zero=>exact λ_=> .inl rfl
      | succ n ih=>
        intro hn2;rcases ih (by omega) with h1 | h1
        . obtain⟨x,hx⟩:=Ab l n (by omega)
          cases hp:p x with
          | true=>exact .inr ⟨n,x,hx,hp,h1⟩
          | false=>exact .inl (Ha hx h1 hp)
        . exact .inr h1
    rcases this l.length (Nat.le_refl _) with h1 | ⟨k,x,hx,hp,hk⟩
    . rw [Yb] at h1;exact absurd h1 hn
    . exact⟨k,x,by rw [<- h,Gi p hx hk hp],hx,hp,hk⟩
theorem PW {p:Mv->Bool}{l:List Mv}{k:Nat}{x:Mv}(h:l[k]? =some x):EI p (l.take (k+1))=EI p (l.take k)++(if p x=true then [] else [x]):=by
  rw [AD h,EI,List.filter_append]
  congr 1
  cases hp:p x <;> simp [hp]
theorem Tu {c l:List Mv}{j:Nat}{x:Mv}(h:c.drop j=l.drop j)(hx:l[j]? =some x):c[j]? =some x:=by
  have h9:(c.drop j)[0]? =(l.drop j)[0]? :=by rw [h]
  rw [List.getElem?_drop,List.getElem?_drop,Nat.add_zero] at h9;rw [h9];exact hx
theorem QX {c l:List Mv}{j:Nat}(h:c.drop j=l.drop j):c.drop (j+1)=l.drop (j+1):=by
  have h1:(c.drop j).drop 1=(l.drop j).drop 1:=by rw [h]
  rwa [Ye,Ye] at h1
theorem Ace {c:List Mv}{i j:Nat}{K:List Mv}{l:List Mv}{x:Mv}(hi:K.length=i)(hij:i<j)(hc:c.length=l.length)(hjl:j<l.length)(hp:c.take i=K)(hs:c.drop j=l.drop j):(c.set i x).take (i+1)=K++ [x]/\(c.set i x).drop (j+1)=l.drop (j+1):=by
  constructor
  . rw [Fj (by omega),hp]
  . rw [List.drop_set,if_pos (by omega)];have h1:(c.drop j).drop 1=(l.drop j).drop 1:=by rw [hs]
    rwa [Ye,Ye] at h1
def Agz (l:List Mv)(spare:Int):V:= .tup [Jz (E8 l spare).1, .int (E8 l spare).2]
theorem AfG (l:List Mv)(p:Mv):l.map mvV++ [.agg [.int p.1, .int p.2]]=(l++ [p]).map mvV:=by rw [Yd];rfl
theorem AfH {p:Mv->Bool}{l:List Mv}(h:¬idxOf p l<0):∃(m:Nat) (y:Mv),idxOf p l=m/\m<l.length/\l[m]? =some y:=by
  rcases Oc (p:=p) (l:=l) rfl with ⟨h1,_⟩ | ⟨k,x,h1,h2,_⟩
  . omega
  . exact⟨k,x,h1,(Yf.1 h2).1,h2⟩
theorem Tv {left:List Mv}{rest:List V}{k:Nat}{p:Mv}{spare v:Int}(hp:left[k]? =some p)(h:p.2=v):(mvL ((left.take k).map (FB spare v)++left.drop k)++rest).set (k*2+1) (V.int spare)=mvL ((left.take (k+1)).map (FB spare v)++left.drop (k+1))++rest:=by
  rw [AaW (Qu _ hp), <- R2 _ hp,FB,if_pos h]
theorem Tw {left:List Mv}(rest:List V){k:Nat}{p:Mv}{spare v:Int}(hp:left[k]? =some p)(h:p.2≠v):mvL ((left.take k).map (FB spare v)++left.drop k)++rest=mvL ((left.take (k+1)).map (FB spare v)++left.drop (k+1))++rest:=by
  have h2:=Qu (FB spare v) hp;obtain ⟨hl,he⟩:=Yf.1 h2;rw [<- R2 _ hp,show FB spare v p=p from if_neg h]
  conv=>rhs;rw [<- he]
  rw [List.set_getElem_self]
theorem AdS {left:List Mv}{rest:List V}{k:Nat}{f:Mv->Mv}(hk:k<=left.length)(h:(k:Int)<left.length):Nat.ble (k*2+1+1) (mvL ((left.take k).map f++left.drop k)++rest).length=true:=AfF (by simp;omega)
theorem Acf {a b c:Own}: [a,b,c].Perm ([c,b]++ [a]):=((List.Perm.swap b a [c]).trans (.cons b (.swap c a []))).trans (.swap c b [a])
theorem QY (l:List Mv)(hne:l≠ [])(hl:l.length<=1000000):AH prog 114 [.sl 2 none (l.map mvV)] [] λr S'=>∃g cap rest,l.length<=cap/\cap<=maxLen/\r= .raw (.slice (some ⟨g,0,none⟩) l.length cap)/\S'= [.cells g 153 ((l.map mvV).flatMap V.leaves++rest)]:=by
 refine AB<|Al (nt:=8) func114 J J J ?_;refine cd<|cb J<|Zb<|cd<|ca J<|Zc<|L1 underlying152 J<|λ b4 hb4=>(cn<|Zr1 J (λ h4=> ?_)<|λ h4=> ?_)
 . exact absurd (hb4 h4) (by simpa using hne)
 refine co<|cd<|Zc<|Mz [] sl152 J J J J J<|λ g5=>(ca J<|Zc<|Lq sl152 (by decide) J J (by have:=List.length_pos_iff.2 hne;simpa using this) (by simp;omega) (Add l)<|λ g7 cap7 rest7 hc7 hm7=>(cb J<|Zf1<|Zg1 J (.tmp J) ?_));exact ⟨_,Dk (Drops.drop (Zt2 _)),g7,cap7,rest7,by simpa using hc7,hm7,by simp,rfl⟩
theorem AdT {l:List Mv}{tok:Option Tok}{p:Mv->Bool}{c:FuncId}{caps:List V}{o:Own}(hen:Enters prog c)(hp:∀x∈l,Cb prog c (mvV x::caps) [o] (.bool (p x))):Cb prog 116 [.sl 2 tok (l.map mvV), .clo (.func c) caps] [o] (.int (idxOf p l)):=by
 refine Al (nt:=19) func116 J J J ?_;refine cd<|cb J<|Zb<|cd<|ca J<|Zc<|Zd2 (n:=l.length) underlying152 J (by simp)<|λ hl7=>(ca J<|cn<|Zs<|Zi2 (ι:=Nat) (λ k=>l.length - k) (λ k=> [(0,some (.sl 2 tok (l.map mvV))),(1,some (.clo (.func c) caps)),(7,some (.int l.length)),(8,some (.int k))]) (λ k=> [o]) (λ k=>k<=l.length/\(l.take k).any p=false) 0 ⟨Yi _,J⟩ cv (Zt2 _) ?_);rintro k hA;change k<=l.length/\(l.take k).any p=false at hA;obtain ⟨hk,hany⟩:=hA;refine cd<|cj J J J<|Zb<|Zn1 J (λ h9=> ?_)<|λ h9=> ?_
 .
  obtain⟨x,hr⟩:=Ab l k h9;refine co<|Zb<|Zs<|cd<|ca J<|cb J<|cd<|ca J<|ca J<|ca J<|Zc<|Zz (el:=mvV x) sl152 J J (by omega) (Iq hr)<|λ a14=>(Zc<|Za2 ty153 J J<|Zc<|IG [.tmp 15] [_] _ J J J hen (Zv2 (i:=0) J) (hp x<|List.mem_of_getElem? hr) ?_);rintro r Sa ⟨rfl,rfl⟩;refine cn<|Zr1 J (λ h16=> ?_)<|λ h16=> ?_
  .
   refine cd<|ca J<|cb J<|Zf1<|Za1<|Zd1<|Zd1<|Za1<|Zd1<|Zg1 J (.tmp J) ?_;rw [Gi p hr hany h16];exact ⟨rfl,rfl⟩
  refine Zi1<|Zb1<|Zi<|Zd<|cm J J<|ca J<|Za<|Zi ?_;exact ⟨k+1,(by (try simp only []);omega),⟨by omega,Ha hr hany h16⟩,cv,(Dk (Zt2 _))⟩
 have hke:k=l.length:=by omega
 subst hke;rw [Yb] at hany;refine Zt<|Ze1<|Ze1<|Zc1<|Zi<|cd<|cb J<|Zf1<|Zg1 J (.tmp J) ?_;rw [El p hany];exact ⟨rfl,rfl⟩
theorem AdU {l:List Mv}{tok:Option Tok}{p:Mv->Bool}{c:FuncId}{caps:List V}{o:Own}(hen:Enters prog c)(hp:∀x∈l,Cb prog c (mvV x::caps) [o] (.bool (p x))):Cb prog 111 [.sl 2 tok (l.map mvV), .clo (.func c) caps] [o] (.bool (l.any p)):=by
 refine Al (nt:=9) func111 J J J ?_;refine cd<|cb J<|cd<|ca J<|ca J<|Zc<|Zm3 [.tmp 5, .tmp 6] [_] _ J J en116 (Zv2 (i:=0) J) (AdT hen hp) ?_;rintro r Sa ⟨rfl,rfl⟩;refine ce J J J<|cb J<|Zf1<|Zg1 J (.tmp J) ?_;rw [H2];exact ⟨rfl,rfl⟩
theorem Od {l:List Mv}(hl:l.length<=1000000){gr cap:Nat}{rest:List V}{O:Af}{p:Mv->Bool}{c:FuncId}{caps:List V}(hen:Enters prog c)(hp:∀x∈l,Cb prog c (mvV x::caps) (.cells gr 153 (mvL (l)++rest)::O) (.bool (p x))):Cb prog 116 [.raw (.slice (some ⟨gr,0,none⟩) l.length cap), .clo (.func c) caps] (.cells gr 153 (mvL (l)++rest)::O) (.int (idxOf p l)):=by
 refine Al (nt:=19) func116 J J J ?_;refine cd<|cb J<|Zb<|cd<|ca J<|Zc<|A4 underlying152 J<|ca J<|cn<|Zs<|Zi2 (ι:=Nat) (λ k=>l.length - k) (λ k=> [(0,some (.raw (.slice (some ⟨gr,0,none⟩) l.length cap))),(1,some (.clo (.func c) caps)),(7,some (.int l.length)),(8,some (.int k))]) (λ k=> .cells gr 153 (mvL (l)++rest)::O) (λ k=>k<=l.length/\(l.take k).any p=false) 0 ⟨Yi _,J⟩ cv (Dk<|Zt2 _) ?_;rintro k hA;change k<=l.length/\(l.take k).any p=false at hA;obtain ⟨hk,hany⟩:=hA;refine cd<|cj J J J<|Zb<|Zn1 J (λ h9=> ?_)<|λ h9=> ?_
 .
  obtain⟨x,hr⟩:=Ab l k h9;refine co<|Zb<|Zs<|cd<|ca J<|cb J<|cd<|ca J<|ca J<|ca J<|Zc<|Zr2 sl152 J J (by omega) (by omega)<|Zc<|Ze3 0 k ty153 J (by simp) J J (Kb l) (Iq hr)<|Zc<|Hw [.tmp 15] (.cells gr 153 (mvL (l)++rest)::O) [] J J J hen (by rw [Yc]) (hp x<|List.mem_of_getElem? hr) ?_;rintro r Sa ⟨rfl,rfl⟩;refine ⟨_,Drops.of_perm (by rw [Yc]),?_⟩;refine cn<|Zr1 J (λ h16=> ?_)<|λ h16=> ?_
  .
   refine cd<|ca J<|cb J<|Zf1<|Za1<|Zd1<|Zd1<|Za1<|Zd1<|Zg1 J (.tmp J) ?_;rw [Gi p hr hany h16];exact ⟨rfl,rfl⟩
  refine Zi1<|Zb1<|Zi<|Zd<|cm J J<|ca J<|Za<|Zi ?_;exact ⟨k+1,(by (try simp only []);omega),⟨by omega,Ha hr hany h16⟩,cv,(Dk (Zt2 _))⟩
 have hke:k=l.length:=by omega
 subst hke;rw [Yb] at hany;refine Zt<|Ze1<|Ze1<|Zc1<|Zi<|cd<|cb J<|Zf1<|Zg1 J (.tmp J) ?_;rw [El p hany];exact ⟨rfl,rfl⟩
theorem Acg {l:List Mv}(hl:l.length<=1000000){gr cap:Nat}{rest:List V}{O:Af}{p:Mv->Bool}{c:FuncId}{caps:List V}(hen:Enters prog c)(hp:∀x∈l,Cb prog c (mvV x::caps) (.cells gr 153 (mvL (l)++rest)::O) (.bool (p x))):Cb prog 111 [.raw (.slice (some ⟨gr,0,none⟩) l.length cap), .clo (.func c) caps] (.cells gr 153 (mvL (l)++rest)::O) (.bool (l.any p)):=by
 refine Al (nt:=9) func111 J J J ?_;refine cd<|cb J<|cd<|ca J<|ca J<|Zc<|Dc [.tmp 5, .tmp 6] (.cells gr 153 (mvL (l)++rest)::O) [] J J en116 (by rw [Yc]) (Od hl hen hp) ?_;rintro r Sa ⟨rfl,rfl⟩;refine ⟨_,Drops.of_perm (by rw [Yc]),?_⟩;refine ce J J J<|cb J<|Zf1<|Zg1 J (.tmp J) ?_;rw [H2];exact ⟨rfl,rfl⟩
theorem AfI (x y:Mv)(gx:Nat):Cb prog 112 [mvV y, .ptr gx 0] [.cells gx 153 [.int x.1, .int x.2]] (.bool (y.1==x.1)):=by
 refine Cb.drops<|Al (nt:=9) func112 J J J ?_;refine cd<|Zc<|Zc2 J J<|λ g2=>(cb J<|cd<|Zc<|AK underlying153 se153 J J (by omega) (by omega)<|cg 0 ty3 J J J<|Zc<|AK underlying153 se153 J J (by omega) (by omega)<|cg 1 ty3 J J J<|ce J J J<|cb J<|Zf1<|Zg1 J (.tmp J) ?_);exact ⟨rfl,(Drops.drop (Dk (Zt2 _)))⟩
theorem AfJ (x:Mv):AP prog 115 [mvV x] (.bool (x.1==x.2)):=by
 refine Al (nt:=8) func115 J J J ?_;refine cd<|Zc<|Zc2 J J<|λ g1=>(cb J<|cd<|Zc<|AK underlying153 se153 J J (by omega) (by omega)<|cg 0 ty3 J J J<|Zc<|AK underlying153 se153 J J (by omega) (by omega)<|cg 0 ty3 J J J<|ce J J J<|cb J<|Zf1<|Zg1 J (.tmp J) ?_);rfl
theorem AdV (x y:Mv)(gx:Nat):Cb prog 118 [mvV y, .ptr gx 0] [.cells gx 153 [.int x.1, .int x.2]] (.bool (y.2==x.1)):=by
 refine Cb.drops<|Al (nt:=9) func118 J J J ?_;refine cd<|Zc<|Zc2 J J<|λ g2=>(cb J<|cd<|Zc<|AK underlying153 se153 J J (by omega) (by omega)<|cg 0 ty3 J J J<|Zc<|AK underlying153 se153 J J (by omega) (by omega)<|cg 1 ty3 J J J<|ce J J J<|cb J<|Zf1<|Zg1 J (.tmp J) ?_);exact ⟨rfl,(Drops.drop (Dk (Zt2 _)))⟩
theorem AdW (l:List Mv)(x y:Mv)(gr cap:Nat)(rest:List V)(gx:Nat):Cb prog 118 [mvV y, .ptr gx 0] [.cells gr 153 (mvL (l)++rest), .cells gx 153 [.int x.1, .int x.2]] (.bool (y.2==x.1)):=
  Cb.perm (Cb.frame [.cells gr 153 (mvL (l)++rest)] (AdV x y gx)) AdR
theorem AfK (l:List Mv)(hl:l.length<=1000000)(x:Mv)(gl gr cap:Nat)(rest:List V):Cb prog 117 [mvV x, .ptr gl 0] [.cells gr 153 (mvL (l)++rest), .cells gl 152 [.raw (.slice (some ⟨gr,0,none⟩) l.length cap)]] (.bool (!(l.any λy=>y.2==x.1))):=by
 refine Cb.drops<|Al (nt:=8) func117 J J J ?_;refine cd<|Zc<|Zc2 J J<|λ g2=>(cb J<|cd<|cg 2 ty152 J J J<|Zc<|Er [.tmp 2] J J<|Zc<|Dc [.tmp 4, .tmp 5] (.cells gr 153 (mvL (l)++rest):: [.cells g2 153 [.int x.1, .int x.2]]) [_] J J en111 (Acd) (Acg (O:= [.cells g2 153 [.int x.1, .int x.2]]) hl en118<|λ y _=>AdW l x y gr cap rest g2) ?_);rintro r Sa ⟨rfl,rfl⟩;refine ⟨_,Zt2 _,?_⟩;refine Zc<|Zl2 J<|cb J<|Zf1<|Zg1 J (.tmp J) ?_;exact ⟨rfl,(Dk (Drops.drop (Dk (Zt2 _))))⟩
theorem AdX {l:List Mv}{gr cap:Nat}{rest:List V}{p:Mv->Bool}{c:FuncId}{caps:List V}(hen:Enters prog c)(hp:∀x,AP prog c (mvV x::caps) (.bool (p x)))(hl:l.length<=1000000)(hlc:l.length<=cap)(hcm:cap<=maxLen):AH prog 113 [.raw (.slice (some ⟨gr,0,none⟩) l.length cap), .clo (.func c) caps] [.cells gr 153 (mvL (l)++rest)] λr S'=>∃rest',r= .raw (.slice (some ⟨gr,0,none⟩) (EI p l).length cap)/\S'= [.cells gr 153 (mvL (EI p l)++rest')]:=by
 refine AB<|Al (nt:=42) func113 J J J ?_;refine cd<|cb J<|cd<|ca J<|ca J<|Zc<|Dc [.tmp 8, .tmp 9] [.cells gr 153 (mvL (l)++rest)] [] J J en116 (by rw [Yc]) (Od (O:= []) hl hen<|λ x _=>(hp x).keep _) ?_;rintro r Sa ⟨rfl,rfl⟩;refine ⟨[.cells gr 153 (mvL (l)++rest)],Zt2 _,?_⟩;obtain ⟨i,hi⟩:∃i,idxOf p l=i:=⟨_,rfl⟩;rw [hi];have hib:=Oc hi;refine cb J<|Zb<|cd<|ca J<|cj J J J<|Zl1 J (λ h12=> ?_)<|λ h12=> ?_
 .
  subst h12;have hn:l.any p=false:=by rcases hib with ⟨_,h⟩ | ⟨k,x,h,_⟩;exact h;omega
  have hkk:EI p l=l:=by have:=Ob (p:=p) (l:=l) (k:=l.length) (by rw [Yb];exact hn);rwa [Yb] at this
  refine cd<|ca J<|cb J<|Zf1<|Zd1<|Zg1 J (.tmp J) ?_;exact ⟨_,(Dk (Zt2 _)),rest,by rw [hkk],by rw [hkk]⟩
 obtain⟨k0,x0,rfl,hx0,hp0,hpre⟩:=hib.resolve_left (λ h=>h12 h.1);have hk0:=(Yf.1 hx0).1;have hke0:EI p (l.take (k0+1))=l.take k0:=by rw [PW hx0,Ob hpre,if_pos hp0,Yc]
 refine co<|Zb<|cd<|Zc<|Zl rfl<|Zc<|Zh2 rfl rfl (by omega)<|Zc<|Zk rfl<|cn<|Zs<|Zi2 (ι:=Nat×Nat×List Mv) (λ (i,j,c2)=>l.length - j) (λ (i,j,c2)=> [(0,some (.raw (.slice (some ⟨gr,0,none⟩) l.length cap))),(1,some (.clo (.func c) caps)),(5,some (.int i)),(6,some (.int j))]) (λ (i,j,c2)=> [.cells gr 153 (mvL (c2)++rest)]) (λ (i,j,c2)=>i<j/\j<=l.length/\c2.length=l.length/\(EI p<|l.take j).length=i/\c2.take i=EI p (l.take j)/\c2.drop j=l.drop j) (k0,k0+1,l) ⟨by omega,by omega,rfl,by rw [hke0,List.length_take];omega,by rw [hke0],rfl⟩ cv (Dk<|Zt2 _) ?_;rintro ⟨i,j,c2⟩ hA;change i<j/\j<=l.length/\c2.length=l.length/\(EI p (l.take j)).length=i/\c2.take i=EI p (l.take j)/\c2.drop j=l.drop j at hA;obtain ⟨hij,hj,hcl,hki,hct,hcd⟩:=hA;refine Zb<|cd<|ca J<|ca J<|Zc<|A4 underlying152 J<|cj J J J<|Zn1 J (λ h19=> ?_)<|λ h19=> ?_
 .
  obtain⟨x,hx⟩:=Ab l j h19;have hxc:c2[j]? =some x:=Tu hcd hx;have hks:=PW (p:=p) hx;refine co<|Zb<|Zs<|cd<|ca J<|ca J<|Zc<|Zr2 sl152 J J (by omega) (by omega)<|Zc<|Ze3 0 j ty153 J (by simp) J J (Kb c2) (Iq hxc)<|Zc<|Zb2 zr153 _ J J<|λ g7=>(Zc<|Zx 0 ty153 J J J J J<|cn<|cd<|ca J<|Zc<|Zv 0 ty153 J J J<|Zc<|CT [.tmp 27] J J J hen (hp x)<|Zc<|Zl2 J<|cn<|Zo1 J (λ h29=> ?_)<|λ h29=> ?_)
  .
   rw [if_neg (by rw [h29];decide)] at hks;have hA3:=Ace (x:=x) hki hij hcl (by omega) hct hcd;have hA2:i+1<j+1/\j+1<=l.length/\(c2.set i x).length=l.length/\(EI p (l.take (j+1))).length=i+1/\(c2.set i x).take (i+1)=EI p (l.take (j+1))/\(c2.set i x).drop (j+1)=l.drop (j+1):=⟨by omega,by omega,by rw [List.length_set];exact hcl,by rw [hks,Ya,hki];rfl,by rw [hks];exact hA3.1,hA3.2⟩;refine cd<|ca J<|ca J<|Zc<|Zv 0 ty153 J J J<|Zc<|Zr2 sl152 J J (by omega) (by omega)<|Zc<|Zg3 1 i ty153 J (by simp) J J J J (Kb c2) (by rw [List.length_map];omega)<|cn<|Zd<|ca J<|cm J J<|ci J<|Za<|Zb1<|Zi<|Zd<|ca J<|cm J J<|ci J<|Za<|Zi ?_;exact ⟨(i+1,j+1,c2.set i x),(by (try simp only []);omega),hA2,cv,(Drops.drop (Drops.keepE (by first | rfl | exact congrArg (Own.cells gr 153) (Acc x)) (Zt2 _)))⟩
  rw [if_pos h29,Yc] at hks;have hA2:i<j+1/\j+1<=l.length/\c2.length=l.length/\(EI p (l.take (j+1))).length=i/\c2.take i=EI p (l.take (j+1))/\c2.drop (j+1)=l.drop (j+1):=⟨by omega,by omega,hcl,by rw [hks];exact hki,by rw [hks];exact hct,QX hcd⟩;refine Zi1<|Zb1<|Zi<|Zd<|ca J<|cm J J<|ci J<|Za<|Zi ?_;exact ⟨(i,j+1,c2),(by (try simp only []);omega),hA2,cv,(Drops.drop (Drops.keepE (by first | rfl | exact congrArg (Own.cells gr 153) (Acc x)) (Zt2 _)))⟩
 have hje:j=l.length:=by omega
 subst hje;rw [Yb] at hki hct;refine Zt<|Ze1<|Ze1<|Zc1<|Zi<|cd<|ca J<|ca J<|Zc<|LQ sl152 J J (by omega) (by omega) (by omega) (by omega)<|Zc<|Lr 0 sl152 (by decide) J J (by rw [Ya,ER];omega)<|λ r11 rest11=>(Za<|Zi ?_);rw [Nat.zero_add,show((i:Int)).toNat=i by omega,Kd c2 rest (by omega),hct];refine cd<|ca J<|ca J<|Zc<|Eb sl152 J J (by omega) (by omega)<|cb J<|Zf1<|Zg1 J (.tmp J) ?_;exact ⟨_,(Dk (Zt2 _)),rest11,by rw [hki];rfl,rfl⟩
theorem Oe (l:List Mv)(gr cap i:Nat)(rest:List V)(hi:i<l.length)(hl:l.length<=1000000)(hlc:l.length<=cap)(hcm:cap<=maxLen):AH prog 119 [.raw (.slice (some ⟨gr,0,none⟩) l.length cap), .int i, .int ((i:Int)+1)] [.cells gr 153 (mvL (l)++rest)] λr S'=>∃rest',r= .raw (.slice (some ⟨gr,0,none⟩) (l.eraseIdx i).length cap)/\S'= [.cells gr 153 (mvL (l.eraseIdx i)++rest')]:=by
 refine AB ?_;have hel:(l.eraseIdx i).length=l.length - 1:=by rw [Yg,if_pos hi]
 refine Al (nt:=33) func119 J J J ?_;refine cd<|cb J<|cd<|ca J<|ca J<|ca J<|ca J<|Zc<|A4 underlying152 J<|Zc<|Qk sl152 J J J J (by omega) (by omega) (by omega) (by omega)<|cn<|Zb<|cd<|ca J<|ca J<|cj J J J<|Zl1 J (λ h16=> ?_)<|λ h16=> ?_
 . omega
 refine co<|cd<|ca J<|Zc<|A4 underlying152 J<|cb J<|Zb<|Ap (G:=Unit) [([],[0],[]),([],[1],[]),([1,0],[20,21],[]),([],[0],[]),([],[2],[]),([4,3],[23,24],[]),(dn 6,[22,25],[]),(dn 7,[26],[])] [6] (DH _ 0<|λ _=> .cells gr 153 ((mvL l++rest).take (i*2)++(((mvL l++rest).drop (if cap=i+1 then 0 else 0+(i+1)*2)).take ((l.length - (i+1))*2)++(mvL l++rest).drop (i*2+(l.length - (i+1))*2)))) [0] [0,20,21,22,23,24,25,26] J VT.mix<|Zp (Zm _) (Zo J J ⟨(λ γ=>Zf (λ _ h0=>Ze (Zn J (Zl h0 z0)))),trivial⟩)<|Zp (Zm _) (Zo J J ⟨(λ γ=>Zf (λ _ h1=>Ze (Zn J (Zl h1 z0)))),trivial⟩)<|Zp (Zm _) (Zo J J ⟨(λ γ=>Zw 0 1 J (λ _ h20=>Zw 1 0 J (λ _ h21=>Ze (Zn J (Eb sl152 h20 h21 (by omega) (by omega) z0))))),trivial⟩)<|Zp (Zm _) (Zo J J ⟨(λ γ=>Zf (λ _ h0=>Ze (Zn J (Zl h0 z0)))),trivial⟩)<|Zp (Zm _) (Zo J J ⟨(λ γ=>Zf (λ _ h2=>Ze (Zn J (Zl h2 z0)))),trivial⟩)<|Zp (Zm _) (Zo J J ⟨(λ γ=>Zw 3 1 J (λ _ h23=>Zw 4 0 J (λ _ h24=>Ze (Zn J (KY sl152 h23 h24 (by omega) (by omega) (by omega) z0))))),trivial⟩)<|Zp (Zm<|.raw<|.slice (some ⟨gr,0,none⟩) (l.eraseIdx i).length cap) (Zn2 J<|λ γ=>Zw 2 3 J<|λ _ h22=>Zw 5 0 J<|λ _ h25=>Ze<|Zn J<|Uc 0 sl152 h22 h25 J (by omega) (by rw [Ya,ER];split <;> omega) (by rw [Ya,ER];omega) ⟨(),congrArg (λ n:Nat=>some (V.raw (.slice (some ⟨gr,0,none⟩) n cap))) (by rw [hel];omega),J⟩)<|Zp (Zm _) (Zo J J ⟨(λ γ=>Zw 6 0 J (λ _ h26=>Ze (Zn J (Zk h26 z0)))),trivial⟩)<|Ak<|λ γ=>Zw 7 0 J<|λ r0 h0=>Ze ?_;have e0:r0=some _:=h0;subst e0;clear h0;refine Zi ?_;obtain ⟨Y,hY⟩:∃Y,Y=(mvL l++rest).drop (i*2+(l.length - (i+1))*2):=⟨_,rfl⟩;have hYl:2<=Y.length:=by rw [hY,List.length_drop,Ya,ER];omega
 refine CS (S':= [.cells gr 153 (mvL (l.eraseIdx i)++Y)]) (Drops.keepE (congrArg (Own.cells gr 153) (by rw [hY];exact XB hi hlc))<|Drops.nil _)<|cd<|ca J<|ca J<|Zc<|A4 underlying152 J<|ca J<|Zc<|LU sl152 J J J (by omega) (by omega) (by omega) (by omega)<|Zc<|Lr 0 sl152 (by decide) J J (by rw [Ya,ER];omega)<|λ r6 rest6=>(cn<|cd<|ca J<|cb J<|Zf1<|Zg1 J (.tmp J) ?_);exact ⟨_,(Dk (Zt2 _)),rest6,rfl,by rw [Nat.zero_add,Int.toNat_natCast,Kd _ _ (Nat.le_refl _),Yb]⟩
theorem U9 (l:List Mv)(spare:Int)(hne:l≠ [])(hl:l.length<=10000):AP prog 89 [Jz l, .int spare] (Agz l spare):=by
 have hr:=Agz.eq_def l spare;rw [E8] at hr;refine Al (nt:=99) func89 J J J ?_;refine cd<|ci J<|cb J<|Zb<|cd<|ca J<|Zc<|Zd2 (n:=l.length) underlying152 J (by simp)<|λ hl14=>(ca J<|cn<|Zs<|Zi2 (ι:=Nat) (λ k=>l.length - k) (λ k=> [(0,some (Jz l)),(1,some (.int spare)),(13,some (Jz l)),(14,some (.int l.length)),(15,some (.int k))]) (λ k=> []) (λ k=>k<=l.length/\FM spare (l.take k) (l.drop k)=FM spare [] l) 0 ⟨Yi _,J⟩ cp (Drops.nil _) ?_);rintro k hA;change k<=l.length/\FM spare (l.take k) (l.drop k)=FM spare [] l at hA;obtain ⟨hk,hq⟩:=hA;refine cd<|cj J J J<|Zb<|Zn1 J (λ h16=> ?_)<|λ h16=> ?_
 .
  obtain⟨x,hx⟩:=Ab l k h16;rw [Ag hx,FM] at hq;refine co<|Zb<|Zs<|cd<|ca J<|Zc<|Zz (el:=mvV x) sl152 J J (by omega) (Iq hx)<|λ a18=>(Zc<|Za2 ty153 J J<|Zc<|Zb2 zr153 _ J J<|λ g7=>(ci J<|Zc<|Zx 0 ty153 J J J J J<|cn<|Zs<|cd<|Zc<|AK underlying153 se153 J J (by omega) (by omega)<|cg 0 ty3 J J J<|ce J J J<|ca J<|Zj2 (q:=24) J (λ hq24=> ?_)<|λ hq24=> ?_))
  .
   have h24:x.1<0:=of_decide_eq_true hq24;rw [if_pos (.inl h24)] at hq;rw [<- hq,if_neg (by decide)] at hr;refine Zk0 hq24<|Zk0 hq24<|Zk0 hq24<|Zc<|Zs1 J hq24 J<|cb J<|Zp1 J J<|cd<|Zc<|Zu2 (Zk J ⟨J,J⟩) ((V.le.nil 2))<|cb J<|Zf1<|Za1<|Za1<|Zd1<|Zd1<|Za1<|Zd1<|Zh1 J J (.cons (.tmp J)<|.cons (.tmp J)<|.nil) ?_
   first | (rw [hr];done) | (rw [hr];rfl) | (rw [hr,hq];done) | (rw [hr,hq];rfl)
  have h24:¬x.1<0:=of_decide_eq_false hq24;refine Zc (AK underlying153 se153 J J (by omega) (by omega) ?_)<|Zy0 hq24;refine Zc (Zu 0 ty3 J J J ?_)<|Zy0 hq24;refine Zc (Zj1 J J J ?_)<|Zy0 hq24;refine Zc<|Zt1 J hq24 J<|cb J<|Zn1 J (λ h20=> ?_)<|λ h20=> ?_
  .
   rw [if_pos (.inr h20)] at hq;rw [<- hq,if_neg (by decide)] at hr;refine cd<|Zc<|Zu2 (Zk J ⟨J,J⟩) ((V.le.nil 2))<|cb J<|Zf1<|Za1<|Za1<|Zd1<|Zd1<|Za1<|Zd1<|Zh1 J J (.cons (.tmp J)<|.cons (.tmp J)<|.nil) ?_
   first | (rw [hr];done) | (rw [hr];rfl) | (rw [hr,hq];done) | (rw [hr,hq];rfl)
  rw [if_neg (λ h=>h.elim h24 h20)] at hq;refine cd<|ca J<|ca J<|Zc<|Zu2 (G8 sl152 J J (by omega) (by simp;omega) ⟨J,J⟩) ((V.le.of_eq (congrArg (V.sl 2 none) (by rw [Int.toNat_natCast,List.map_take])):V.le _ (.sl 2 none<|(l.take k).map mvV)))<|Zc<|Er [.tmp 7] J J<|Zc<|Zl3 [.tmp 32, .tmp 33] [_] _ J J en111 (.refl _) (AdU (o:= .cells g7 153 [.int x.1, .int x.2]) en112<|λ y _=>AfI x y g7)<|cb J<|Zr1 J (λ h29=> ?_)<|λ h29=> ?_
  .
   rw [if_pos h29] at hq;rw [<- hq,if_neg (by decide)] at hr;refine cd<|Zc<|Zu2 (Zk J ⟨J,J⟩) ((V.le.nil 2))<|cb J<|Zf1<|Za1<|Za1<|Zd1<|Zd1<|Za1<|Zd1<|Zh1 J J (.cons (.tmp J)<|.cons (.tmp J)<|.nil) ?_
   first | (rw [hr];done) | (rw [hr];rfl) | (rw [hr,hq];done) | (rw [hr,hq];rfl)
  rw [if_neg (by rw [h29];decide)] at hq;refine cd<|Zc<|AK underlying153 se153 J J (by omega) (by omega)<|cg 0 ty3 J J J<|ca J<|ce J J J<|ca J<|Zj2 (q:=40) J (λ hq40=> ?_)<|λ hq40=> ?_
  .
   have h40:x.1=spare:=by simpa using hq40
   rw [if_pos (.inl h40)] at hq;rw [<- hq,if_neg (by decide)] at hr;refine Zk0 hq40<|Zk0 hq40<|Zk0 hq40<|Zk0 hq40<|Zc<|Zs1 J hq40 J<|cb J<|Zp1 J J<|cd<|Zc<|Zu2 (Zk J ⟨J,J⟩) ((V.le.nil 2))<|cb J<|Zf1<|Za1<|Za1<|Zd1<|Zd1<|Za1<|Zd1<|Zh1 J J (.cons (.tmp J)<|.cons (.tmp J)<|.nil) ?_
   first | (rw [hr];done) | (rw [hr];rfl) | (rw [hr,hq];done) | (rw [hr,hq];rfl)
  have h40:¬x.1=spare:=by simpa using hq40
  refine Zc (AK underlying153 se153 J J (by omega) (by omega) ?_)<|Zy0 hq40;refine Zc (Zu 0 ty3 J J J ?_)<|Zy0 hq40;refine Zc (Zl J ?_)<|Zy0 hq40;refine Zc (Zj1 J J J ?_)<|Zy0 hq40;refine Zc<|Zt1 J hq40 J<|cb J<|Zl1 J (λ h35=> ?_)<|λ h35=> ?_
  .
   rw [if_pos (.inr h35)] at hq;rw [<- hq,if_neg (by decide)] at hr;refine cd<|Zc<|Zu2 (Zk J ⟨J,J⟩) ((V.le.nil 2))<|cb J<|Zf1<|Za1<|Za1<|Zd1<|Zd1<|Za1<|Zd1<|Zh1 J J (.cons (.tmp J)<|.cons (.tmp J)<|.nil) ?_
   first | (rw [hr];done) | (rw [hr];rfl) | (rw [hr,hq];done) | (rw [hr,hq];rfl)
  rw [if_neg (λ h=>h.elim h40 h35)] at hq;refine Zi1<|Zb1<|Zb1<|Zi<|Zd<|cm J J<|ca J<|Za<|Zi ?_;exact ⟨k+1,(by (try simp only []);omega),⟨by omega,by rw [AD hx];exact hq⟩,cp,(Drops.nil _)⟩
 have hke:k=l.length:=by omega
 subst hke;rw [List.drop_length,Yb,FM] at hq;rw [<- hq,if_pos rfl] at hr;refine Zt<|Ze1<|Ze1<|Zc1<|Zi<|cd<|ca J<|Zc<|Zm3 [.tmp 47] [] _ J J en114 (.refl _) (QY l hne (by omega)) ?_;rintro r Sa ⟨gr,cap,rest0,hcc,hcm,rfl,rfl⟩;refine Zc<|Dc [.tmp 48, .func 115] [.cells gr 153 (mvL (l)++rest0)] [] J J en113 (by rw [Yc]) (AdX en115 (λ x=>AfJ x) (by omega) hcc hcm) ?_;rintro r Sa ⟨rest1,rfl,rfl⟩;refine ⟨[.cells gr 153 (mvL (EI (λ x=>x.1==x.2) l)++rest1)],Zt2 _,?_⟩;have hll:(EI (λ x:Mv=>x.1==x.2) l).length<=l.length:=List.length_filter_le _ _;refine Zc<|Zb2 zr152 _ rfl rfl<|λ g8=>(Zc<|Zy 0 ty152 rfl rfl rfl rfl rfl<|cn<|cd<|Zc<|EK 153 2<|cn<|Zb<|Zs<|Zi2 (ι:=Tok×List Mv×List Mv×List V) (λ (tok,left,out,rest)=>left.length) (λ (tok,left,out,rest)=> [(1,some (.int spare)),(8,some (.ptr g8 0)),(9,some (.sl 2 (some tok) (out.map mvV)))]) (λ (tok,left,out,rest)=> [.buf tok 153 2 out.length, .cells g8 152 [.raw (.slice (some ⟨gr,0,none⟩) left.length cap)], .cells gr 153 (mvL (left)++rest)]) (λ (tok,left,out,rest)=>Dy spare (FC l).length (FC l,[])=Dy spare left.length (left,out)/\left.length<=cap/\left.length<=10000/\out.length+2*left.length<=20000) (.nil,FC l,[],rest1) ⟨rfl,Nat.le_trans hll hcc,Nat.le_trans hll hl,by have:=Nat.le_trans hll hl;show 0+2*(EI (λ x:Mv=>x.1==x.2) l).length<=20000;omega⟩ ⟨rfl,rfl,rfl,trivial⟩ (Drops.buf (by simp)<|Dk<|Dk<|Zt2 _) ?_);rintro ⟨tok,left,out,rest⟩ hA;change Dy spare (FC l).length (FC l,[])=Dy spare left.length (left,out)/\left.length<=cap/\left.length<=10000/\out.length+2*left.length<=20000 at hA;obtain ⟨hq,hlc,hlm,hol⟩:=hA;refine Zb<|cd<|cg 1 ty152 J J J<|Zc<|A4 underlying152 J<|cj J J J<|Zn1 J (λ h52=> ?_)<|λ h52=> ?_
 .
  refine co<|Zs<|cd<|cg 1 ty152 J J J<|Zc<|Er [.tmp 8] J J<|Zc<|Dc [.tmp 53, .tmp 54] (.cells gr 153 (mvL (left)++rest):: [.cells g8 152 [.raw (.slice (some ⟨gr,0,none⟩) left.length cap)]]) [_] J J en116 (Acf) (Od (O:= [.cells g8 152 [.raw (.slice (some ⟨gr,0,none⟩) left.length cap)]]) (by omega) en117<|λ x _=>AfK left (by omega) x g8 gr cap rest) ?_;rintro r Sa ⟨rfl,rfl⟩;refine ⟨_,Zt2 _,?_⟩;refine cb J<|Zb<|cd<|ca J<|cj J J J<|Zn1 J (λ h57=> ?_)<|λ h57=> ?_
  .
   obtain⟨x,hx⟩:=Ab left 0 (by omega);obtain ⟨n,hn⟩:∃n,left.length=n+1:=⟨left.length - 1,by omega⟩;obtain ⟨ou,hou⟩:∃ou,ou=out++ [(spare,x.1)]:=⟨_,rfl⟩;obtain ⟨lf,hlf⟩:∃lf,lf=left.map (FB spare x.1):=⟨_,rfl⟩;have hlfl:left.length=lf.length:=by rw [hlf,List.length_map]
   obtain⟨m,hat,hm0⟩:∃m:Nat,(0:Int)=(m:Int)/\m=0:=⟨0,rfl,rfl⟩;have hml:m<lf.length:=by omega
   obtain⟨y,hget⟩:=Ab lf m (by omega);have hstep:DM spare (left,out)=(lf.eraseIdx m,ou++ [y]):=by subst hm0;rw [hou,hlf];rw [hlf] at hget;exact Nf h57 hx hget
   have hll3:(lf.eraseIdx m).length=n:=by rw [Yg,if_pos hml];omega
   have houl:ou.length=out.length+1:=by rw [hou,Ya,Yh]
   refine cd<|cg 1 ty152 J J J<|Zc<|Zr2 sl152 J J (by omega) (by omega)<|Zc<|AK underlying153 se153 J J (by omega) (by omega)<|Zc<|Zu 0 ty3 J J (AaU hx)<|cb J<|cd<|ca J<|ca J<|ca J<|Zc<|Gh [0,1] [.tmp 63, .tmp 64] VT.at153 J J J J<|Zc<|Zk3 [.tmp 65] sl152 J J J J J<|Zc<|Zi3 2 _ sl152 J J J (by simp) (by simp;omega)<|λ t67=>(Zc<|Zu2 (Zk J ⟨J,J⟩) ((V.le.of_eq (congrArg (V.sl 2<|some t67) (by rw [hou];exact AfG out (spare,x.1))):V.le _ (.sl 2 (some t67)<|ou.map mvV)))<|cn<|Zb<|cd<|cg 1 ty152 J J J<|Zc<|A4 underlying152 J<|ca J<|cn<|Zs<|Zi2 (ι:=Nat) (λ k=>left.length - k) (λ k=> [(1,some (.int spare)),(8,some (.ptr g8 0)),(9,some (.sl 2 (some t67) (ou.map mvV))),(11,some (.int x.1)),(69,some (.int left.length)),(70,some (.int k))]) (λ k=> [.cells gr 153 (mvL ((left.take k).map (FB spare x.1)++left.drop k)++rest), .cells g8 152 [.raw (.slice (some ⟨gr,0,none⟩) left.length cap)], .buf t67 153 2 ou.length]) (λ k=>k<=left.length) 0 (Yi _) cr (Dk<|Dk<|Drops.buf (by rw [hou];simp)<|Zt2 _) ?_);rintro k hk;change k<=left.length at hk;refine cd<|cj J J J<|Zb<|Zn1 J (λ h71=> ?_)<|λ h71=> ?_
   .
    obtain⟨p,hp⟩:=Ab left k h71;refine co<|Zb<|Zs<|cd<|ca J<|cb J<|cd<|cg 1 ty152 J J J<|ca J<|Zc<|Zu2 (Zr2 sl152 J J (by omega) (by omega) ⟨J,J⟩) ((V.le.of_eq (congrArg (V.ptr gr) (by omega)):V.le _ (.ptr gr (k*2))))<|Zc<|AK underlying153 se153 J J (by omega) (by omega)<|Zc<|Zu 0 ty3 J J (AaV<|Qu _ hp)<|ca J<|cj J J J<|Zl1 J (λ h79=> ?_)<|λ h79=> ?_
    .
     refine Zd<|cg 1 ty152 J J J<|ca J<|ca J<|Zc<|Zu2 (Zr2 sl152 J J (by omega) (by omega) ⟨J,J⟩) ((V.le.of_eq (congrArg (V.ptr gr) (by omega)):V.le _ (.ptr gr (k*2))))<|Zc<|AK underlying153 se153 J J (by omega) (by omega)<|Zc<|Zy 0 ty3 J J J J (AdS hk h71)<|Za<|Zb1<|Zi<|Zd<|cm J J<|ca J<|Za<|Zi ?_;exact ⟨k+1,(by (try simp only []);omega),(by omega),cr,(Drops.keepE (congrArg (Own.cells gr 153) (by first | exact Tv hp h79 | exact Tw rest hp h79)) (Dk (Drops.buf (by simp) (Zt2 _))))⟩
    refine Zi1<|Zb1<|Zi<|Zd<|cm J J<|ca J<|Za<|Zi ?_;exact ⟨k+1,(by (try simp only []);omega),(by omega),cr,(Drops.keepE (congrArg (Own.cells gr 153) (by first | exact Tv hp h79 | exact Tw rest hp h79)) (Dk (Drops.buf (by simp) (Zt2 _))))⟩
   have hke:k=left.length:=by omega
   refine CS (S':= [.cells gr 153 (mvL (lf)++rest), .cells g8 152 [.raw (.slice (some ⟨gr,0,none⟩) left.length cap)], .buf t67 153 2 ou.length]) (Drops.keepE (congrArg (Own.cells gr 153) (by rw [hlf,hke,Yb,List.drop_length,Yc]))<|Dk<|Dk<|Drops.nil _)<|Zt<|Ze1<|Ze1<|Zc1<|Zi<|Zd<|cb J<|cd<|ca J<|Zc<|Zu2 (Zu 1 ty152 J J J ⟨J,J⟩) ((V.le.of_eq (congrArg (λ n:Nat=>V.raw (.slice (some ⟨gr,0,none⟩) n cap)) hlfl):V.le _ (.raw<|.slice (some ⟨gr,0,none⟩) lf.length cap)))<|Zc<|Zu2 (Zl J ⟨J,J⟩) ((V.le.of_eq (congrArg V.int hat):V.le _ (.int (m:Int))))<|Zc<|Zr2 sl152 J J (by omega) (by omega)<|Zc<|Ze3 0 m ty153 J (by simp) J J (Kb lf) (Iq hget)<|Zc<|Zk3 [.tmp 90] sl152 J J J J J<|Zc<|Zi3 2 _ sl152 J J J (by first | (simp;done) | (rw [hou];simp)) (by simp;omega)<|λ t92=>(cb J<|Zd<|Zc<|Zu2 (Zu 1 ty152 J J J ⟨J,J⟩) ((V.le.of_eq (congrArg (λ n:Nat=>V.raw (.slice (some ⟨gr,0,none⟩) n cap)) hlfl):V.le _ (.raw<|.slice (some ⟨gr,0,none⟩) lf.length cap)))<|Zc<|Zu2 (Zl J ⟨J,J⟩) ((V.le.of_eq (congrArg V.int hat):V.le _ (.int (m:Int))))<|Zc<|Zu2 (Zl J ⟨J,J⟩) ((V.le.of_eq (congrArg V.int hat):V.le _ (.int (m:Int))))<|cm J J<|Zc<|Dc [.tmp 93, .tmp 94, .tmp 96] [.cells gr 153 (mvL (lf)++rest)] [_,_] J J en119 (.refl _) (Oe lf gr cap m rest hml (by omega) (by omega) hcm) ?_);rintro r Sa ⟨rest2,rfl,rfl⟩;refine ⟨_,Zt2 _,?_⟩;refine Zc<|Zy 1 ty152 J J J J J<|Za<|Zb1<|Zi ?_;exact ⟨(t92,lf.eraseIdx m,ou++ [y],rest2),(by (try simp only []);rw [hll3];omega),⟨by rw [hq,hn,Dy,hstep,hll3],by rw [hll3];omega,by rw [hll3];omega,by rw [hll3,Ya,Yh];omega⟩,⟨rfl,rfl,(by first | (rw [Yd];rfl) | (rw [hou,Yd];rfl)),trivial⟩,(Drops.pickBuf 2 rfl (by first | (simp;done) | (rw [hou];simp)) (Drops.pick 1 rfl rfl (Drops.pick 0 rfl rfl (Drops.nil _))))⟩
  obtain⟨m,y,hat,hml,hget⟩:=AfH h57;obtain ⟨n,hn⟩:∃n,left.length=n+1:=⟨left.length - 1,by omega⟩;obtain ⟨ou,hou⟩:∃ou,ou=out:=⟨_,rfl⟩;obtain ⟨lf,hlf⟩:∃lf,lf=left:=⟨_,rfl⟩;have hlfl:left.length=lf.length:=by rw [hlf]
  have hstep:DM spare (left,out)=(lf.eraseIdx m,ou++ [y]):=by rw [hlf,hou];exact Pj hat hget
  rw [<- hlf] at hml hget;have hll3:(lf.eraseIdx m).length=n:=by rw [Yg,if_pos hml];omega
  have houl:ou.length<=out.length+1:=by rw [hou];omega
  refine CS (S':= [.cells gr 153 (mvL (lf)++rest), .cells g8 152 [.raw (.slice (some ⟨gr,0,none⟩) left.length cap)], .buf tok 153 2 out.length]) (Drops.keepE (congrArg (Own.cells gr 153) (by rw [hlf]))<|Dk<|Dk<|Drops.nil _)<|co<|cd<|ca J<|Zc<|Zu2 (Zu 1 ty152 J J J ⟨J,J⟩) ((V.le.of_eq (congrArg (λ n:Nat=>V.raw (.slice (some ⟨gr,0,none⟩) n cap)) hlfl):V.le _ (.raw<|.slice (some ⟨gr,0,none⟩) lf.length cap)))<|Zc<|Zu2 (Zl J ⟨J,J⟩) ((V.le.of_eq (congrArg V.int hat):V.le _ (.int (m:Int))))<|Zc<|Zr2 sl152 J J (by omega) (by omega)<|Zc<|Ze3 0 m ty153 J (by simp) J J (Kb lf) (Iq hget)<|Zc<|Zk3 [.tmp 90] sl152 J J J J J<|Zc<|Zi3 2 _ sl152 J J J (by first | (simp;done) | (rw [hou];simp)) (by simp;omega)<|λ t92=>(cb J<|Zd<|Zc<|Zu2 (Zu 1 ty152 J J J ⟨J,J⟩) ((V.le.of_eq (congrArg (λ n:Nat=>V.raw (.slice (some ⟨gr,0,none⟩) n cap)) hlfl):V.le _ (.raw<|.slice (some ⟨gr,0,none⟩) lf.length cap)))<|Zc<|Zu2 (Zl J ⟨J,J⟩) ((V.le.of_eq (congrArg V.int hat):V.le _ (.int (m:Int))))<|Zc<|Zu2 (Zl J ⟨J,J⟩) ((V.le.of_eq (congrArg V.int hat):V.le _ (.int (m:Int))))<|cm J J<|Zc<|Dc [.tmp 93, .tmp 94, .tmp 96] [.cells gr 153 (mvL (lf)++rest)] [_,_] J J en119 (.refl _) (Oe lf gr cap m rest hml (by omega) (by omega) hcm) ?_);rintro r Sa ⟨rest2,rfl,rfl⟩;refine ⟨_,Zt2 _,?_⟩;refine Zc<|Zy 1 ty152 J J J J J<|Za<|Zb1<|Zi ?_;exact ⟨(t92,lf.eraseIdx m,ou++ [y],rest2),(by (try simp only []);rw [hll3];omega),⟨by rw [hq,hn,Dy,hstep,hll3],by rw [hll3];omega,by rw [hll3];omega,by rw [hll3,Ya,Yh];omega⟩,⟨rfl,rfl,(by first | (rw [Yd];rfl) | (rw [hou,Yd];rfl)),trivial⟩,(Drops.pickBuf 2 rfl (by first | (simp;done) | (rw [hou];simp)) (Drops.pick 1 rfl rfl (Drops.pick 0 rfl rfl (Drops.nil _))))⟩
 have hl0:left.length=0:=by omega
 rw [hl0,Dy] at hq;refine Zt<|Ze1<|Ze1<|Zc1<|Zi<|cd<|Zc<|Zu2 (Zl J ⟨J,J⟩) ((V.le.strip:V.le (.sl 2 (some _) _) (.sl 2 none _)))<|ci J<|cb J<|Zf1<|Zh1 J J (.cons (.tmp J)<|.cons (.tmp J)<|.nil) ?_
 first | (rw [hr];done) | (rw [hr];rfl) | (rw [hr,hq];done) | (rw [hr,hq];rfl)
end Go.Proofs.YthlflmmnankhhaaGreat.X17
