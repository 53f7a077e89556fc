import Derived.Test.YthlflmmnankhhaaGreatVE
set_option linter.all false
open List renaming range → Ya, mem_range → Yb, all_eq_true → Yc, getElem?_eq_getElem → Yd, mem_filter → Ye, getElem?_eq_some_iff → Yf, filter_congr → Yg, range_succ → Yh, filter_append → Yi
open Nat renaming beq → Yj, blt_eq → Yk, beq_eq → Yl, eq_of_beq_eq_true → Ym
namespace Go.VL
def MQ:Nat->List (List Nat)
 | 0=> [[]]
 | n+1=>MQ n++(MQ n).map (· ++ [n])
theorem Ib (p:Nat->Bool):∀n,(Ya n).filter p∈MQ n
 | 0=>by simp [MQ]
 | n+1=>by
  rw [Yh,Yi,MQ]
  cases h:p n with
  | true=>exact List.mem_append_right _ (List.mem_map.2 ⟨_,Ib p n,by simp [h]⟩)
  | false=>exact List.mem_append_left _ (by simpa [h] using Ib p n)
theorem GQ:∀ {n:Nat} {l:List Nat},l∈MQ n->∃p,l=(Ya n).filter p
 | 0,l,h=>⟨λ _=>false,by simpa [MQ] using h⟩
 | n+1,l,h=>by
  rw [MQ] at h;rcases List.mem_append.1 h with h | h
  .obtain ⟨p,hp⟩:=GQ h;refine ⟨λ k=>p k&&Nat.blt k n,?_⟩;rw [Yh,Yi,hp]
   have:(Ya n).filter (λ k=>p k&&Nat.blt k n)=(Ya n).filter p:=Yg λk hk=>by
    have:=Yb.1 hk;simp [Yk,this]
   rw [this];simp
  obtain⟨l',h',rfl⟩:=List.mem_map.1 h;obtain ⟨p,hp⟩:=GQ h';refine ⟨λ k=>p k||Yj k n,?_⟩;rw [Yh,Yi,hp]
  have:(Ya n).filter (λ k=>p k||Yj k n)=(Ya n).filter p:=Yg λk hk=>by
   have:=Yb.1 hk;have hb:Yj k n=false:=by rw [<- Bool.not_eq_true,Yl];omega
   simp [hb]
  rw [this];simp
theorem Ud {n:Nat}{l:List Nat}(h:l∈MQ n):l.Nodup:=by
 obtain⟨p,rfl⟩:=GQ h;exact List.Pairwise.filter _ List.nodup_range
theorem Ac7 {n p:Nat}{l:List Nat}(h:l∈MQ n)(hp:p∈l):p<n:=by
 obtain⟨f,rfl⟩:=GQ h;exact Yb.1 (Ye.1 hp).1
section
variable {G:Type}(ops:List Oper)(F0:Fr)(ps:List DP)(un:List Nat)(St:List Nat->(Nat->G)->Af)
def Agh (i:Nat)(dl:List Nat):Bool:=(Ya un.length).all λp=>match nth un p with
 | some u=>(!has (A9 ps i).1 u||has dl p)&&(!has dl p||(!has (A9 ps u).1 i&& !Yj u i&&(Ya un.length).all λp'=>match nth un p' with
  | some u'=> !has (A9 ps u).1 u'||has dl p'
  | none=>true))
 | none=>true
def IR (i:Nat):List (List Nat):=(MQ un.length).filter (Agh ps un i)
def Xh:List (List Nat)->(List Nat->Prop)->Prop
 | [],_=>True
 | j::t,p=>p j/\Xh t p
theorem MR {p:List Nat->Prop}:∀ {l:List (List Nat)},Xh l p->∀j∈l,p j
 | j::t,h,k,hk=>by
  rcases List.mem_cons.1 hk with rfl | hk
  .exact h.1
  exact MR h.2 k hk
theorem Ql {p:List Nat->Prop}:∀(l:List (List Nat)),(∀j∈l,p j)->Xh l p
 | [],_=>trivial
 | j::t,h=>⟨h j (List.mem_cons_self ..),Ql t λk hk=>h k (List.mem_cons_of_mem _ hk)⟩
def Qm (n q:Nat)(dl:List Nat):List Nat:=(Ya n).filter λp=>has dl p||Yj p q
def EO (P:Program)(nt:Nat)(i:Nat)(o:Oper)(acc:List (BL G))(R:BL G):Prop:=
 match H3 un i 0 with
 | some q=>Xh (IR ps un i) λdl=>∀γ:Nat->G,CF ops F0 ps acc γ (A9 ps i).1 (A9 ps i).2.1 λF=>GJ ops P nt o F (St dl γ) λr S'=>∃x,R ((A9 ps i).2.2.map (upd γ q x)) r/\Drops S' (St (Qm un.length q dl) (upd γ q x))
 | none=>Xh (IR ps un i) λdl=>∀γ:Nat->G,CF ops F0 ps acc γ (A9 ps i).1 (A9 ps i).2.1 λF=>GJ ops P nt o F (St dl γ) λr S'=>R ((A9 ps i).2.2.map γ) r/\S'=St dl γ
def MT (P:Program)(nt:Nat):Nat->List Oper->List (BL G)->(List (BL G)->Prop)->Prop
 | _,[],acc,k=>k acc
 | i,o::rest,acc,k=>∃R,EO ops F0 ps un St P nt i o acc R/\MT P nt (i+1) rest (acc++ [R]) k
def VC:Bool:=(un.all λu=>Nat.blt u ops.length)&&(ps.all λp=>MF p.1)&&(Ya un.length).all λq=>(Ya un.length).all λq'=>Yj q q'||(match nth un q,nth un q' with
  | some u,some u'=> !Yj u u'
  | _,_=>false)
end
section
variable {G:Type}{ops:List Oper}{F0:Fr}{ps:List DP}{un:List Nat}{nt:Nat}{ws:List Nat}
structure RE (ops:List Oper)(ps:List DP)(un:List Nat)(nt:Nat)(ws:List Nat):Prop where
 dst:∀(i:Nat) (o:Oper),ops[i]? =some o->JM nt o.dst=true
 wr:∀(i:Nat) (o:Oper) (d:Nat),ops[i]? =some o->o.dst=some d->d∈ws
 edge:∀(i:Nat) (o:Oper),ops[i]? =some o->∀e∈o.after,Region.binds .any e=true->e.on<i/\e.on∈(A9 ps i).1
 pre:∀(i:Nat) (o:Oper),ops[i]? =some o->∀k∈(A9 ps i).1,k<i/\∃e∈o.after,Region.binds .any e=true/\(k=e.on\/k∈(A9 ps e.on).1)
 ord:∀(i:Nat) (o:Oper),ops[i]? =some o->∀s,s∈(A9 ps i).2.1\/o.dst=some s->∀k,k<ops.length->k≠i->Gl ops k s=true->k∈(A9 ps i).1\/i∈(A9 ps k).1
 js:∀(i:Nat) (o:Oper),ops[i]? =some o->∀j∈(A9 ps i).2.2,∃u,un[j]? =some u/\(u=i\/u∈(A9 ps i).1)
 ulen:∀u∈un,u<ops.length
 uinj:∀(q q' u:Nat),un[q]? =some u->un[q']? =some u->q=q'
 desc:∀i,((A9 ps i).1).Pairwise (· > ·)
theorem RF (h1:KP ops ps un nt ws=true)(h2:VC ops ps un=true):RE ops ps un nt ws:=by
 simp only [VC,Bool.and_eq_true] at h2;obtain ⟨⟨hu,hd⟩,hq⟩:=h2
 have key:∀i o,ops[i]? =some o->_:=λi o ho=>by
  have hi:i<ops.length:=(Yf.1 ho).1;have:=Yc.1 h1 i (Yb.2 hi);rw [DR,ho] at this;dsimp only at this;simp only [Bool.and_eq_true] at this;exact this
 refine⟨λ i o ho=>(key i o ho).1.1.1.1.1,?_,?_,?_,?_,?_,?_,?_,?_⟩
 .intro i o d ho hod;have:=(key i o ho).1.1.1.1.2;rw [hod] at this;exact Bi.1 this
 .intro i o ho e he hb;have:=Array.all_eq_true_iff_forall_mem.1 (key i o ho).1.1.1.2 e he;rw [hb] at this;simp only [Bool.not_true,Bool.false_or,Bool.and_eq_true] at this;exact ⟨by simpa [Yk] using this.1,Bi.1 this.2⟩
 .intro i o ho k hk;have:=Yc.1 (key i o ho).1.1.2 k hk;simp only [Bool.and_eq_true] at this;obtain ⟨h3,h4⟩:=this;rw [<- Array.any_toList] at h4;obtain ⟨e,he,h5⟩:=List.any_eq_true.1 h4;rw [Array.mem_toList_iff] at he;simp only [Bool.and_eq_true,Bool.or_eq_true] at h5;exact ⟨by simpa [Yk] using h3,e,he,h5.1,h5.2.imp Ym Bi.1⟩
 .intro i o ho s hs k hk hki hdst
  have hmem:s∈(A9 ps i).2.1++o.dst.toList:=by
   rcases hs with h | h
   .exact List.mem_append_left _ h
   exact List.mem_append_right _ (by rw [h];simp)
  have:=Yc.1 (Yc.1 (key i o ho).1.2 s hmem) k (Yb.2 hk);rw [hdst] at this;simp only [Bool.not_true,Bool.or_false,Bool.or_eq_true] at this;rcases this with (h | h) | h
  .exact absurd (Ym h) hki
  .exact .inl (Bi.1 h)
  exact .inr (Bi.1 h)
 .intro i o ho j hj;have:=Yc.1 (key i o ho).2 j hj;rw [DR] at this
  cases hun:un[j]? with
  | none=>rw [hun] at this;cases this
  | some u=>
   rw [hun] at this;simp only [Bool.or_eq_true] at this;exact ⟨u,rfl,this.imp Ym Bi.1⟩
 .intro u hu';have:=Yc.1 hu u hu';simpa [Yk] using this
 .intro q q' u h3 h4;have hql:q<un.length:=(Yf.1 h3).1;have hql':q'<un.length:=(Yf.1 h4).1;have:=Yc.1 (Yc.1 hq q (Yb.2 hql)) q' (Yb.2 hql');rw [DR,DR,h3,h4] at this;simp at this;exact this
 intro i;rcases MG ps i with h | h
 .rw [h];exact List.Pairwise.nil
 exact KQ (Yc.1 hd _ h)
end
section
variable {G:Type}{P:Program}{nt:Nat}{ops:List Oper}{F0:Fr}{S0:Af}
structure RG (ops:List Oper)(F0:Fr)(S0:Af)(nt:Nat)(ps:List DP)(un:List Nat)(St:List Nat->(Nat->G)->Af)(full:List (BL G))(m0:Mem)(w0:World)(listed:Array Bool)(γ:Nat->G)(dn:Nat->Bool)(m:Mem)(w:World)(a:Act):Prop where
 size:listed.size=ops.length
 closed:∀k,lis listed k->∀k'∈(A9 ps k).1,lis listed k'
 stage:∀(p u:Nat),un[p]? =some u->(lis listed u↔dn p=true)
 defers:a.defers= []
 tmps:a.tmps.size=nt
 look:∀s,∃r,Hc ops F0 ps full γ s (lis listed) r/\∀v,r=some v->Rep m v (a.tmps.getD s undef)
 step:A2 m0 S0 w0 m (St ((Ya un.length).filter dn) γ) w
variable {ps:List DP}{un:List Nat}{St:List Nat->(Nat->G)->Af}{full:List (BL G)}{m0:Mem}{w0:World}{ws:List Nat}
theorem OR {P:Program}{k:List (BL G)->Prop}:∀ {rest:List Oper} {i:Nat} {acc:List (BL G)},MT ops F0 ps un St P nt i rest acc k->acc.length=i->
  ∃full,k full/\(∃t,full=acc++t/\t.length=rest.length)/\∀j o,rest[j]? =some o->∃R,full[i+j]? =some R/\EO ops F0 ps un St P nt (i+j) o (full.take (i+j)) R
 | [],i,acc,h,_=>⟨acc,h,⟨[],by simp,rfl⟩,λj o hj=>by simp at hj⟩
 | o::rest,i,acc,⟨R,hR,h⟩,hl=>by
  obtain⟨full,h1,⟨t,ht,htl⟩,h2⟩:=OR h (by simp [hl]);have hfull:full=acc++(R::t):=by rw [ht];simp
  refine⟨full,h1,⟨R::t,hfull,by simp [htl]⟩,λj o' hj=> ?_⟩
  cases j with
  | zero=>
   simp at hj;subst hj;refine ⟨R,by rw [hfull,Nat.add_zero,List.getElem?_append_right (by omega),hl];simp,?_⟩;have:full.take (i+0)=acc:=by rw [hfull,Nat.add_zero, <- hl];simp
   rw [this];exact hR
  | succ j=>
   simp at hj;obtain ⟨R',h3,h4⟩:=h2 j o' hj;rw [show i+(j+1)=i+1+j by omega];exact ⟨R',h3,h4⟩
theorem RG.next (C:RE ops ps un nt ws){listed:Array Bool}{γ γ2:Nat->G}{dn dn2:Nat->Bool}{m m2:Mem}{w w2:World}{a:Act}{i:Nat}{o:Oper}{R:BL G}{r:Option V}{u:Value}(h:RG ops F0 S0 nt ps un St full m0 w0 listed γ dn m w a)
  (ho:ops[i]? =some o) (hni:¬lis listed i) (hpre:∀k∈(A9 ps i).1,lis listed k) (hR:full[i]? =some R) (hres:R ((A9 ps i).2.2.map γ2) r) (hru:Og m2 r u) (hg:∀j,dn j=true->γ2 j=γ j)
  (hstage:∀(p u:Nat),un[p]? =some u->((lis listed u\/u=i)↔dn2 p=true)) (hst:A2 m (St ((Ya un.length).filter dn) γ) w m2 (St ((Ya un.length).filter dn2) γ2) w2):
  RG ops F0 S0 nt ps un St full m0 w0 (listed.setIfInBounds i true) γ2 dn2 m2 w2 (a.put o.dst u):=by
 have hi:i<listed.size:=by rw [h.size];exact(Yf.1 ho).1
 have hjs:∀k o',ops[k]? =some o'->lis listed k->(A9 ps k).2.2.map γ2=(A9 ps k).2.2.map γ:=λk o' ho' hk=>by
  apply List.map_congr_left;intro j hj;obtain ⟨u',hu',hor⟩:=C.js k o' ho' j hj
  have hlu:lis listed u':=by
   rcases hor with rfl | hp
   .exact hk
   exact h.closed k hk u' hp
  exact hg j ((h.stage j u' hu').1 hlu)
 refine⟨by simpa using h.size,?_,?_,?_,?_,?_,h.step.trans hst⟩
 .intro k hk k' hk';rw [DI hi] at hk ⊢;rcases hk with hk | rfl
  .exact .inl (h.closed k hk k' hk')
  exact .inl (hpre k' hk')
 .intro p u' hu';rw [DI hi];exact hstage p u' hu'
 .cases hd:o.dst <;> exact h.defers
 .cases hd:o.dst with
  | none=>exact h.tmps
  | some d=>simp [Act.put,h.tmps]
 intro s
 by_cases hd:o.dst=some s
 .refine ⟨r, .inl ⟨i,R,(DI hi).2 (.inr rfl),(Fw ho).2 hd,λk' hk' hd'=> ?_,by rw [DR];exact hR,hres⟩,λv hv=> ?_⟩
  .rcases (DI hi).1 hk' with hk | rfl
   .by_cases hki:k'=i
    .omega
    rcases C.ord i o ho s (.inr hd) k' (by have:=D9 hk;rw [h.size] at this;exact this) hki hd' with h1 | h1
    .exact Nat.le_of_lt (C.pre i o ho k' h1).1
    exact absurd (h.closed k' hk i h1) hni
   exact Nat.le_refl _
  subst hv
  have hs:s<a.tmps.size:=by
   have:=C.dst i o ho;rw [hd] at this;rw [h.tmps];exact Nat.le_of_ble_eq_true (n:=s+1) this
  rw [hd];have hru':Rep m2 v u:=hru;simpa [Act.put,hs] using hru'
 obtain⟨r',hl,hv⟩:=h.look s;refine ⟨r',?_,λv hv'=> ?_⟩
 .rcases hl with ⟨k,R',hk,hdk,hm,hn,hR'⟩ | ⟨hk,hr⟩
  .have hkn:k<ops.length:=by have:=D9 hk;rw [h.size] at this;exact this
   refine .inl ⟨k,R',(DI hi).2 (.inl hk),hdk,λk' hk' hd'=> ?_,hn,?_⟩
   .rcases (DI hi).1 hk' with hk'' | rfl
    .exact hm k' hk'' hd'
    exact absurd ((Fw ho).1 hd') hd
   rw [hjs k _ (Yd hkn) hk];exact hR'
  refine .inr ⟨λ k hk'=> ?_,hr⟩;rcases (DI hi).1 hk' with hk'' | rfl
  .exact hk k hk''
  rw [<- Bool.not_eq_true];exact λhd'=>hd ((Fw ho).1 hd')
 have:=Rep.mono hst.mono _ _ (hv v hv')
 cases hdd:o.dst with
 | none=>exact this
 | some d=>
  have hne:d≠s:=λe=>hd (by rw [hdd,e]);simpa [Act.put,Array.getElem?_setIfInBounds_ne hne] using this
theorem AaG [Inhabited G]{id:Nat}{Q:Exit->Fr->Af->Prop}(ps:List DP)(un:List Nat)(St:List Nat->(Nat->G)->Af)(outs ws:List Nat)(hS0:St [] (λ _=>default)=S0)(hSt:∀(d:Nat->Bool) (γ γ':Nat->G),(∀p,d p=true->γ p=γ' p)->St ((Ya un.length).filter d) γ=St ((Ya un.length).filter d) γ')(hmix:P.follows .mixedOrders=true)
  (h1:KP ops ps un nt ws=true) (h2:VC ops ps un=true)
  (h:MT ops F0 ps un St P nt 0 ops [] λacc=>∀γ:Nat->G,CF ops F0 ps acc γ (Ya ops.length).reverse outs λF=>Q .normal (F++(ws.map (λ s=>(s,none))++F0)) (St (Ya un.length) γ)):
  VW P nt (.region id ops.toArray true) Q F0 S0:=by
 have C:=RF h1 h2;obtain ⟨full,hfin,⟨t,ht,htl⟩,hall⟩:=OR h rfl;simp only [List.nil_append] at ht;subst ht;intro m0 w0 a0 QQ hf0 hw0 hK;refine wp_region_any hmix ?_
 -- the end
 have fin:∀(listed:Array Bool) (γ:Nat->G) (dn:Nat->Bool) (m:Mem) (w:World) (a:Act),RG ops F0 S0 nt ps un St full m0 w0 listed γ dn m w a->Region.ready .any ops.toArray listed= []->QQ .normal a w:=by
  intro listed γ dn m w a D hr
  have hallL:∀k,k<ops.length->lis listed k:=by
   intro k
   induction k using Nat.strongRecOn with
   | _ k ihk=>
    intro hk
    by_cases hlk:lis listed k
    .exact hlk
    exfalso
    have hmem:k∈Region.ready .any ops.toArray listed:=by
     rw [mem_ready];refine ⟨?_,ops[k],by simp [hk],λe he hb=> ?_⟩
     .have hks:k<listed.size:=by rw [D.size];exact hk
      unfold lis at hlk;simp [hks] at hlk ⊢;exact hlk
     have:=C.edge k _ (Yd hk) e he hb;exact ihk e.on this.1 (by omega)
    rw [hr] at hmem
    cases hmem
  have hq:(Ya un.length).filter dn=Ya un.length:=by
   rw [List.filter_eq_self];intro p hp;have hlt:=Yb.1 hp;exact (D.stage p _ (Yd hlt)).1 (hallL _ (C.ulen _ (List.getElem_mem hlt)))
  have Dst:=D.step;rw [hq] at Dst
  have hpw:((Ya ops.length).reverse).Pairwise (· > ·):=by
   rw [List.pairwise_reverse];exact List.pairwise_lt_range
  have hρ:∀s,∃r,E0 ops F0 ps full γ s (Ya ops.length).reverse r/\Hc ops F0 ps full γ s (lis listed) r/\∀v,r=some v->Rep m v (a.tmps.getD s undef):=λs=>by
   obtain⟨r,hl,hv⟩:=D.look s;refine ⟨r,H5 hpw (IH (λ k hk _=> ?_) (λ k hk=> ?_) hl),hl,hv⟩
   .have:=D9 hk;rw [D.size] at this;simpa using this
   exact hallL k (by simpa using hk)
  let ρ:Nat->Option V:=λs=>Classical.choose (hρ s)
  have hρs:∀s,E0 ops F0 ps full γ s (Ya ops.length).reverse (ρ s)/\Hc ops F0 ps full γ s (lis listed) (ρ s)/\∀v,ρ s=some v->Rep m v (a.tmps.getD s undef):=λs=>Classical.choose_spec (hρ s);have hQ:=DS ρ (hfin γ) (λ s _=>(hρs s).1);refine hK _ _ _ m w a hQ ⟨D.defers,D.tmps,λi v hv=> ?_⟩ Dst;rw [E4] at hv;split at hv
  .exact (hρs i).2.2 v hv
  have hv2:=hv;rw [E4 (λ _=>none)] at hv2;split at hv2
  .cases hv2
  rename_i hiw;refine (hρs i).2.2 v ?_;rcases (hρs i).2.1 with ⟨k,R,hk,hd,_⟩ | ⟨_,hr'⟩
  .exfalso;have hkn:k<ops.length:=by have:=D9 hk;rw [D.size] at this;exact this
   exact hiw (C.wr k _ i (Yd hkn) ((Fw (Yd hkn)).1 hd))
  rw [hr'];exact hv2
 -- one operation's turn
 have inv:∀(fuel:Nat) (listed:Array Bool) (γ:Nat->G) (dn:Nat->Bool) (m:Mem) (w:World) (a:Act),((Ya ops.length).filter λk=> !listed.getD k false).length<=fuel->
   RG ops F0 S0 nt ps un St full m0 w0 listed γ dn m w a->wpAny P .any ops.toArray QQ fuel listed a w:=by
  intro fuel
  induction fuel with
  | zero=>
   intro listed γ dn m w a hcnt D
   have hr:Region.ready .any ops.toArray listed= []:=by
    rw [List.eq_nil_iff_forall_not_mem];intro k hk;obtain ⟨hk1,o,ho,_⟩:=mem_ready.1 hk
    have hkn:k<ops.length:=by
     have:=(Array.getElem?_eq_some_iff.1 ho).1;simpa using this
    have:k∈(Ya ops.length).filter λk=> !listed.getD k false:=Ye.2 ⟨Yb.2 hkn,by
     have:=L2 hk1;unfold lis at this;simpa using this⟩
    have hnil:=List.eq_nil_of_length_eq_zero (Nat.le_zero.1 hcnt);rw [hnil] at this
    cases this
   exact⟨hr,fin listed γ dn m w a D hr⟩
  | succ fuel ih=>
   intro listed γ dn m w a hcnt D;refine ⟨fin listed γ dn m w a D,λi hi=> ?_⟩;obtain ⟨hi1,o,ho',hedge⟩:=mem_ready.1 hi;have ho:ops[i]? =some o:=by simpa using ho'
   have hin:i<ops.length:=(Yf.1 ho).1;have hni:=L2 hi1
   have hpre:∀k∈(A9 ps i).1,lis listed k:=λk hk=>by
    obtain⟨_,e,he,hb,hor⟩:=C.pre i o ho k hk;have hle:=hedge e he hb;rcases hor with rfl | hk'
    .exact hle
    exact D.closed _ hle k hk'
   have hcnt':((Ya ops.length).filter λk=> !(listed.setIfInBounds i true).getD k false).length<=fuel:=by
    have hsub:((Ya ops.length).filter λk=> !(listed.setIfInBounds i true).getD k false)=((Ya ops.length).filter λk=> !listed.getD k false).filter λk=>decide (k≠i):=by
     rw [List.filter_filter];apply Yg;intro k _
     by_cases hk:i=k
     .subst hk;have:i<listed.size:=by rw [D.size];exact hin
      simp [this]
     rw [getD_set_ne false hk];simp [Ne.symm hk]
    rw [hsub]
    have hlt:=(List.length_filter_lt_length_iff_exists (l:=(Ya ops.length).filter λk=> !listed.getD k false) (p:=λk=>decide (k≠i))).2 ⟨i,Ye.2 ⟨Yb.2 hin,by
     unfold lis at hni;simpa using hni⟩,by simp⟩
    omega
   obtain⟨R,hR,hgood⟩:=hall i o ho;rw [Nat.zero_add] at hR hgood
   -- what the operation looks at
   have hρ:∀s,∃r,Hc ops F0 ps full γ s (lis listed) r/\∀v,r=some v->Rep m v (a.tmps.getD s undef):=D.look
   let ρ:Nat->Option V:=λs=>Classical.choose (hρ s)
   have hρs:∀s,Hc ops F0 ps full γ s (lis listed) (ρ s)/\∀v,ρ s=some v->Rep m v (a.tmps.getD s undef):=λs=>Classical.choose_spec (hρ s)
   have hlook:∀s∈(A9 ps i).2.1,E0 ops F0 ps (full.take i) γ s (A9 ps i).1 (ρ s):=λs hs=>by
    refine Jp (λ k hk=>(C.pre i o ho k hk).1) (H5 (C.desc i) (IH (λ k hk hd=> ?_) hpre (hρs s).1));have hkn:k<ops.length:=by have:=D9 hk;rw [D.size] at this;exact this
    rcases C.ord i o ho s (.inl hs) k hkn (λ e=>hni (e ▸ hk)) hd with h3 | h3
    .exact h3
    exact absurd (D.closed k hk i h3) hni
   have hfr:D2 m nt ((A9 ps i).2.1.map λs=>(s,ρ s)) a:=Jb D.defers D.tmps λs _ v hv=>(hρs s).2 v hv
   have go:∀(K:Option V->Af->Prop),GJ ops P nt o ((A9 ps i).2.1.map λs=>(s,ρ s)) (St ((Ya un.length).filter dn) γ) K->
     (∀r S' m' w' u,K r S'->Og m' r u->A2 m (St ((Ya un.length).filter dn) γ) w m' S' w'->wpAny P .any ops.toArray QQ fuel (listed.setIfInBounds i true) (a.put o.dst u) w')->
     wpOp P ops.toArray QQ i (wpAny P .any ops.toArray QQ fuel (listed.setIfInBounds i true)) a w:=by
    intro K ⟨b,hb,ht,hfa⟩ hnext;unfold wpOp;rw [ho'];dsimp only;rw [Vq ops hfr hb]
    cases b with
    | true=>
     rw [if_pos rfl];exact .inl (ht rfl m w a _ QQ hfr D.step.rel hnext)
    | false=>
     rw [if_neg Bool.false_ne_true];exact hnext (some (.raw undef)) _ m w undef (hfa rfl) rfl (A2.refl D.step.rel)
   have hmay:(Ya un.length).filter dn∈IR ps un i:=by
    refine Ye.2 ⟨Ib _ _,?_⟩;unfold Agh;rw [Yc];intro p hp;have hlt:=Yb.1 hp;have hup:un[p]? =some un[p]:=Yd hlt
    have hdn:∀ {p u:Nat},un[p]? =some u->(has ((Ya un.length).filter dn) p=true↔lis listed u):=λ {p u} hu=>by
     rw [Bi,Ye,D.stage p u hu];exact ⟨λ h=>h.2,λh=>⟨Yb.2 (Yf.1 hu).1,h⟩⟩
    rw [DR,hup];dsimp only;rw [Bool.and_eq_true,Bool.or_eq_true,Bool.or_eq_true,Bool.not_eq_true',Bool.not_eq_true'];constructor
    .cases hh:has (A9 ps i).1 un[p] with
     | false=>exact .inl rfl
     | true=>exact .inr ((hdn hup).2 (hpre _ (Bi.1 hh)))
    cases hh:has ((Ya un.length).filter dn) p with
    | false=>exact .inl rfl
    | true=>
     right;have hl:=(hdn hup).1 hh;rw [Bool.and_eq_true,Bool.and_eq_true,Bool.not_eq_true',Bool.not_eq_true'];refine ⟨⟨?_,?_⟩,?_⟩
     .rw [<- Bool.not_eq_true,Bi];exact λh=>hni (D.closed _ hl i h)
     .rw [<- Bool.not_eq_true,Yl];exact λh=>hni (h ▸ hl)
     rw [Yc];intro p' hp';have hlt':=Yb.1 hp';have hup':un[p']? =some un[p']:=Yd hlt';rw [DR,hup'];dsimp only
     cases hh':has (A9 ps un[p]).1 un[p'] with
     | false=>rfl
     | true=>
      rw [Bool.not_true,Bool.false_or];exact (hdn hup').2 (D.closed _ hl _ (Bi.1 hh'))
   unfold EO at hgood
   cases hun:H3 un i 0 with
   | none=>
    rw [hun] at hgood;have hiu:=KS hun;have hj:=MR hgood _ hmay γ;refine go _ (DS ρ hj hlook) λr S' m' w' u hk hru st=> ?_;obtain ⟨hres,rfl⟩:=hk;refine ih _ γ dn m' w' _ hcnt' (D.next C ho hni hpre hR hres hru (λ j _=>rfl) (λ p u' hu'=> ?_) st);constructor
    .rintro (h3 | rfl)
     .exact (D.stage p u' hu').1 h3
     exact absurd (List.mem_of_getElem? hu') hiu
    exact λh3=> .inl ((D.stage p u' hu').2 h3)
   | some q0=>
    rw [hun] at hgood;obtain ⟨k,hk0,hk⟩:=KR hun;have hqk:q0=k:=by omega
    subst hqk;have hj:=MR hgood _ hmay γ
    have hq0:dn q0=false:=by
     rw [<- Bool.not_eq_true];exact λh=>hni ((D.stage q0 i hk).2 h)
    refine go _ (DS ρ hj hlook) λr S' m' w' u hk' hru st=> ?_;obtain ⟨x,hres,hd⟩:=hk'
    have hins:Qm un.length q0 ((Ya un.length).filter dn)=(Ya un.length).filter λp=>dn p||Yj p q0:=Yg λp hp=>by
     congr 1
     rw [Bool.eq_iff_iff,Bi,Ye];exact ⟨λ h=>h.2,λh=>⟨hp,h⟩⟩
    rw [hins] at hd;have st:=st.trans (hd.step st.rel);refine ih _ (upd γ q0 x) (λ p=>dn p||Yj p q0) m' w' _ hcnt' (D.next C ho hni hpre hR hres hru (λ j hjq=> ?_) (λ p u' hu'=> ?_) st)
    .have hb:Yj j q0=false:=by
      rw [<- Bool.not_eq_true,Yl];intro h;rw [h,hq0] at hjq
      cases hjq
     simp [upd,hb]
    rw [Bool.or_eq_true,Yl, <- D.stage p u' hu'];constructor
    .rintro (h3 | rfl)
     .exact .inl h3
     exact .inr (C.uinj _ _ _ hu' hk)
    rintro(h3 | rfl)
    .exact .inl h3
    rw [hk] at hu';injection hu' with hu';exact .inr hu'.symm
 have hsz:ops.toArray.size=ops.length:=by simp
 rw [hsz];refine inv ops.length _ (λ _=>default) (λ _=>false) m0 _ a0 ?_ ⟨by simp,?_,?_,hf0.defers,hf0.size,?_,?_⟩
 .exact Nat.le_trans (List.length_filter_le _ _) (by simp)
 .intro k hk;have:=D9 hk;unfold lis at hk;simp at this hk;simp [this] at hk
 .intro p u hu;constructor
  .intro hk;have:=D9 hk;unfold lis at hk;simp at this hk;simp [this] at hk
  intro h3;cases h3
 .intro s;refine ⟨F0.get s, .inr ⟨λ k hk=> ?_,rfl⟩,λv hv=>hf0.get s v hv⟩;have:=D9 hk;unfold lis at hk;simp at this hk;simp [this] at hk
 rw [show (Ya un.length).filter (λ _=>false)= [] by simp,hS0];exact A2.drew hw0
theorem CF.mono {acc:List (BL G)}{γ:Nat->G}{pre:List Nat}:∀ {slots:List Nat} {k k':Fr->Prop},CF ops F0 ps acc γ pre slots k->(∀F,k F->k' F)->CF ops F0 ps acc γ pre slots k'
 | [],k,k',h,hk=>hk _ h
 | s::t,k,k',h,hk=>λr hr=>CF.mono (h r hr) λF=>hk _
theorem GJ.mono {o:Oper}{F:Fr}{S:Af}{K K':Option V->Af->Prop}(h:GJ ops P nt o F S K)(hk:∀r S',K r S'->K' r S'):GJ ops P nt o F S K':=by
 obtain⟨b,h1,h2,h3⟩:=h;exact ⟨b,h1,λhb=>(h2 hb).mono hk,λhb=>hk _ _ (h3 hb)⟩
variable {i:Nat}{o:Oper}{acc:List (BL G)}{R:BL G}
theorem Ic {l:List (List Nat)}(hu:H3 un i 0=none)(hs:IR ps un i=l)(h:Xh l λdl=>∀γ:Nat->G,CF ops F0 ps acc γ (A9 ps i).1 (A9 ps i).2.1 λF=>GJ ops P nt o F (St dl γ) λr S'=>R ((A9 ps i).2.2.map γ) r/\S'=St dl γ):
  EO ops F0 ps un St P nt i o acc R:=by
 unfold EO;rw [hu];subst hs;exact h
theorem EP (hu:H3 un i 0=none)(h:∀(S:Af) (γ:Nat->G),CF ops F0 ps acc γ (A9 ps i).1 (A9 ps i).2.1 λF=>GJ ops P nt o F S λr S'=>R ((A9 ps i).2.2.map γ) r/\S'=S):EO ops F0 ps un St P nt i o acc R:=
 Ic hu rfl (Ql _ λdl _ γ=>h _ γ)
theorem ZpM {rest:List Oper}{k:List (BL G)->Prop}(R:BL G)(h:EO ops F0 ps un St P nt i o acc.reverse R)(t:MT ops F0 ps un St P nt (i+1) rest (R::acc).reverse k):MT ops F0 ps un St P nt i (o::rest) acc.reverse k:=⟨R,h,by rw [<- List.reverse_cons];exact t⟩
theorem OS {k:List (BL G)->Prop}(h:k acc):MT ops F0 ps un St P nt i [] acc k:=h
theorem Jq {g:Nat}{T:TypeId}{a b:List V}{S:Af}(h:a=b):Own.cells g T a::S=Own.cells g T b::S:=by rw [h]
end
end Go.VL
