import Derived.Test.YthlflmmnankhhaaGreatVYA
import Derived.Laws.Pointers
import Derived.Lib.Builder
import Derived.ChangeKeysEq
set_option linter.all false
open List renaming all_eq_true → Ya, replicate → Yb, append_assoc → Yc, getElem?_eq_some_iff → Yd, all_append → Ye, replicate_succ → Yf, flatMap_cons → Yg, length_take → Yh, mem_cons_self → Yi, flatMap → Yj, length_append → Yk, mem_flatMap → Yl, nil_append → Ym, mem_of_getElem? → Yn, getElem?_append_left → Yo, mem_of_mem_take → Yp, getElem?_set → Yq, getElem?_append_right → Yr
open Nat renaming beq → Ys, zero_add → Yt, beq_eq → Yu, le_refl → Yv, le_trans → Yw, add_mul → Yx, eq_zero_or_pos → Yy, ble_eq_true_of_le → Yz, eq_of_beq_eq_true → Yaa, le_mul_of_pos_right → Yab
open Int renaming natCast_pow → Yac
section
namespace Go.VL
section
variable {P:Program}{nt:Nat}{F:Fr}{S:Af}{Q:Exit->Fr->Af->Prop}{K:Option V->Af->Prop}
variable {d:Option Tmp}{ty:TypeId}{pos:String}{af:Array Edge}{gd:Option (Nat×Bool)}
theorem GM {t e sz bytes:Nat}{z:Value}{len cap:Nat}{A:Option Addr}{x:Operand}{lo hi:Option Operand}{l h:Int}(ht:A8 P t e sz bytes z)(hx:F.ev x=some (.raw (.slice A len cap)))
  (hl:bound F 0 lo=some l) (hh:bound F len hi=some h) (h0:0<=l) (h1:l<=h) (h2:h<=cap) (hk:K (some (.raw (.slice (if cap=l.toNat then A else A.map (·.add (l.toNat*sz))) (h.toNat - l.toNat) (cap - l.toNat)))) S):
  VOp P nt ⟨d, .slice t x lo hi none,ty,pos,af,gd⟩ F S K:=by
 refine AW _ (λ m w ac hf hw=> ?_) hk;have ha:ac.eval x= .slice A len cap:=hf.ev hx;obtain ⟨i,i1,i2,i3,i4⟩:=ht.info;refine ⟨_,?_,rfl⟩;simp only [execOp,ha,Instr.sliceAt,Sem.run_bind,run_underlying ht.und w,Result.andThen_ok,Instr.slice,Option.map_none,Mx hf hl hh h0 h1 h2];simp [sizeOf,typeInfo,i1,i2]
theorem E3 {sz:Nat}:∀ {xs:List V} {k:Nat} {el:V} {rest:List V},(∀x∈xs,x.leaves.length=sz)->xs[k]? =some el->((xs.flatMap V.leaves++rest).drop (k*sz)).take sz=el.leaves
 | [],k,el,rest,_,h=>by simp at h
 | x::xs,0,el,rest,hl,h=>by
  simp at h;subst h;rw [Nat.zero_mul,List.drop_zero,Yg,Yc];rw [<- hl x (Yi ..)];exact List.take_left
 | x::xs,k+1,el,rest,hl,h=>by
  simp at h;have:=E3 (rest:=rest) (λ y hy=>hl y (List.mem_cons_of_mem _ hy)) h;rw [Yg,Yc,Nat.succ_mul,Nat.add_comm (k*sz) sz, <- List.drop_drop];have hx:=hl x (Yi ..);rw [show List.drop sz (x.leaves++(Yj V.leaves xs++rest))=Yj V.leaves xs++rest by rw [<- hx];exact List.drop_left];exact this
theorem Mo {sz:Nat}:∀ {xs:List V} {k:Nat} {v:V} {rest:List V},(∀x∈xs,x.leaves.length=sz)->k<xs.length->v.leaves.length=sz->
  (xs.flatMap V.leaves++rest).take (k*sz)++v.leaves++(xs.flatMap V.leaves++rest).drop (k*sz+sz)=(xs.set k v).flatMap V.leaves++rest
 | [],k,v,rest,_,h,_=>by simp at h
 | x::xs,0,v,rest,hl,h,hv=>by
  have hx:=hl x (Yi ..);rw [Nat.zero_mul,List.take_zero,Yt,List.set_cons_zero,Yg,Yg,Ym,Yc,Yc];rw [show List.drop sz (x.leaves++(Yj V.leaves xs++rest))=Yj V.leaves xs++rest by rw [<- hx];exact List.drop_left]
 | x::xs,k+1,v,rest,hl,h,hv=>by
  have hx:=hl x (Yi ..);have ih:=Mo (rest:=rest) (λ y hy=>hl y (List.mem_cons_of_mem _ hy)) (show k<xs.length by simpa using h) hv;rw [List.set_cons_succ,Yg,Yg];simp only [Yc] at ih ⊢;rw [<- ih];have e1:(k+1)*sz=x.leaves.length+k*sz:=by rw [Nat.succ_mul,hx,Nat.add_comm]
  rw [e1,List.take_length_add_append,Nat.add_assoc,List.drop_length_add_append];simp only [Yc]
theorem Q3 (i k:Nat){t sz:Nat}{x:Operand}{g o:Nat}{T:TypeId}{ls rest xs:List V}{vs:List V}(ht:EZ P t sz)(hx:F.ev x=some (.ptr g o))(ho:o=k*sz)(hS:S[i]? =some (.cells g T ls))(hls:ls=xs.flatMap V.leaves++rest)(hfit:∀x∈xs,x.leaves.length=sz)(he:xs[k]? =some (.agg vs))
  (hk:K (some (.agg vs)) S):VOp P nt ⟨d, .load t x,ty,pos,af,gd⟩ F S K:=by
 have hkl:=(Yd.1 he).1;have h1:=E3 (rest:=rest) hfit he
 have hle:o+sz<=ls.length:=by
  have h2:((ls.drop o).take sz).length=sz:=by
   rw [ho,hls,h1];exact hfit _ (Yn he)
  rw [Yh,List.length_drop] at h2;rcases Yy sz with h0 | h0
  .subst h0;rw [ho,Nat.mul_zero];omega
  omega
 refine Mu i ht hx hS (Yz hle) ?_;rw [ho,hls,h1];exact hk
theorem PY (i k:Nat){t:Nat}{x:Operand}{g o:Nat}{T:TypeId}{ls rest xs:List V}{v:V}(ht:BI P t)(hx:F.ev x=some (.ptr g o))(ho:o=k)(hS:S[i]? =some (.cells g T ls))(hls:ls=xs++rest)(he:xs[k]? =some v)
  (hk:K (some v) S):VOp P nt ⟨d, .load t x,ty,pos,af,gd⟩ F S K:=by
 refine ZQ i ht hx hS ?_ hk;rw [hls,ho,Yo (Yd.1 he).1];exact he
theorem PZ (i k:Nat){t sz:Nat}{x y:Operand}{g o:Nat}{T:TypeId}{ls rest xs:List V}{vs:List V}(ht:EZ P t sz)(hx:F.ev x=some (.ptr g o))(ho:o=k*sz)(hy:F.ev y=some (.agg vs))(hvs:Ys vs.length sz=true)(hS:S[i]? =some (.cells g T ls))(hls:ls=xs.flatMap V.leaves++rest)
  (hfit:∀x∈xs,x.leaves.length=sz) (hkl:k<xs.length) (hk:K none (S.set i (.cells g T ((xs.set k (.agg vs)).flatMap V.leaves++rest)))):VOp P nt ⟨d, .store t x y,ty,pos,af,gd⟩ F S K:=by
 have hvl:vs.length=sz:=Yaa hvs;have he:=List.getElem?_eq_getElem hkl;have h1:=E3 (rest:=rest) hfit he
 have hle:o+sz<=ls.length:=by
  have h2:((ls.drop o).take sz).length=sz:=by
   rw [ho,hls,h1];exact hfit _ (Yn he)
  rw [Yh,List.length_drop] at h2;rcases Yy sz with h0 | h0
  .subst h0;rw [ho,Nat.mul_zero];omega
  omega
 refine Lt i ht hx hy hvs hS (Yz hle) ?_;rw [ho,hls];have:=Mo (rest:=rest) (v:= .agg vs) hfit hkl hvl;have hl2:(V.agg vs).leaves=vs:=rfl;rw [hl2] at this;rw [this];exact hk
theorem Of (i k:Nat){t:Nat}{x y:Operand}{g o:Nat}{T:TypeId}{ls rest xs:List V}{v:V}(ht:BI P t)(hx:F.ev x=some (.ptr g o))(ho:o=k)(hy:F.ev y=some v)(hl:v.leaf=true)(hS:S[i]? =some (.cells g T ls))(hls:ls=xs++rest)(hkl:k<xs.length)
  (hk:K none (S.set i (.cells g T (xs.set k v++rest)))):VOp P nt ⟨d, .store t x y,ty,pos,af,gd⟩ F S K:=by
 refine Vm i ht hx hy hl hS (Yz (by rw [hls,Yk];omega)) ?_;rw [ho,hls,List.set_append_left _ _ hkl];exact hk
end
end Go.VL
namespace Go.VL
section
variable {P:Program}{nt:Nat}{F:Fr}{S:Af}{Q:Exit->Fr->Af->Prop}{K:Option V->Af->Prop}
variable {d:Option Tmp}{ty:TypeId}{pos:String}{af:Array Edge}{gd:Option (Nat×Bool)}
def Cb (P:Program)(f:FuncId)(args:List V)(S:Af)(r:V):Prop:=AH P f args S λr' S'=>r'=r/\S'=S
theorem VOp.drops {o:Oper}{K':Option V->Af->Prop}(h:VOp P nt o F S K')(hk:∀r S',K' r S'->∃T,Drops S' T/\K r T):VOp P nt o F S K:=by
 intro m w a KK QQ hf hw hK;refine h m w a KK QQ hf hw λr S' m' w' u hr hru st=> ?_;obtain ⟨T,hd,hk'⟩:=hk r S' hr;exact hK r T m' w' u hk' hru (st.trans (hd.step st.rel))
def V.le (v v':V):Prop:=∀m u,Rep m v u->Rep m v' u
theorem V.le.refl (v:V):V.le v v:=λ_ _ h=>h
theorem V.le.of_eq {v v':V}(h:v=v'):V.le v v':=h ▸ V.le.refl v
theorem V.le.nil (sz:Nat):V.le V.nilSl (.sl sz none []):=λm u h=>⟨none,0,h,Yv _,Nat.zero_le _,trivial, .inl rfl⟩
theorem V.le.strip {sz:Nat}{t:Option Tok}{xs:List V}:V.le (.sl sz t xs) (.sl sz none xs):=λm u ⟨A,cap,h1,h2,h3,h4,h5⟩=>⟨A,cap,h1,h2,h3,trivial,h5⟩
def V.les:List V->List V->Prop
 | [],[]=>True
 | x::xs,y::ys=>V.le x y/\y.leaf=true/\V.les xs ys
 | _,_=>False
theorem V.les.repL {m:Mem}:∀ {xs ys:List V} {us:List Value},V.les xs ys->RepL m xs us->RepL m ys us/\ys.all V.leaf=true
 | [],[],us,_,h=>⟨h,rfl⟩
 | x::xs,y::ys,us,⟨h1,h2,h3⟩,⟨u,us',e,r,k⟩=>by
  obtain⟨k1,k2⟩:=V.les.repL h3 k;exact ⟨⟨u,us',e,h1 _ _ r,k1⟩,by rw [List.all_cons,h2,k2];rfl⟩
 | [],y::ys,_,h,_=>h.elim
 | x::xs,[],_,h,_=>h.elim
theorem V.le.agg {xs ys:List V}(h:V.les xs ys):V.le (.agg xs) (.agg ys):=λm u ⟨hl,us,hu,hr⟩=>⟨(h.repL hr).2,us,hu,(h.repL hr).1⟩
theorem Aev {o:Oper}{v v':V}(h:VOp P nt o F S λr S'=>r=some v/\S'=S)(hle:V.le v v')(hk:K (some v') S):VOp P nt o F S K:=by
 intro m w a KK QQ hf hw hK;refine h m w a KK QQ hf hw λr S' m' w' u ⟨h1,h2⟩ hru st=> ?_;subst h1;subst h2;exact hK _ _ m' w' u hk (hle _ _ hru) st
theorem LQ {t e sz bytes:Nat}{z:Value}{len cap g o:Nat}{x y:Operand}{l:Int}(ht:A8 P t e sz bytes z)(hx:F.ev x=some (.raw (.slice (some ⟨g,o,none⟩) len cap)))(hy:F.ev y=some (.int l))(h0:0<=l)(h1:l<=len)(h2:l<cap)(h3:len<=cap)
  (hk:K (some (.raw (.slice (some ⟨g,o+l.toNat*sz,none⟩) (len - l.toNat) (cap - l.toNat)))) S):VOp P nt ⟨d, .slice t x (some y) none none,ty,pos,af,gd⟩ F S K:=by
 refine GM (h:=len) ht hx (Hb hy) rfl h0 h1 (by omega) ?_;have hne:¬cap=l.toNat:=by omega
 rw [if_neg hne,Int.toNat_natCast];simp only [Option.map_some,CD];exact hk
theorem Eb {t e sz bytes:Nat}{z:Value}{len cap g o:Nat}{x y:Operand}{h:Int}(ht:A8 P t e sz bytes z)(hx:F.ev x=some (.raw (.slice (some ⟨g,o,none⟩) len cap)))(hy:F.ev y=some (.int h))(h0:0<=h)(h2:h<=cap)
  (hk:K (some (.raw (.slice (some ⟨g,o,none⟩) h.toNat cap))) S):VOp P nt ⟨d, .slice t x none (some y) none,ty,pos,af,gd⟩ F S K:=by
 refine GM (l:=0) ht hx rfl (Hb hy) (Int.le_refl _) h0 h2 ?_
 have e:(if cap=(0:Int).toNat then (some ⟨g,o,none⟩:Option Addr) else (some ⟨g,o,none⟩:Option Addr).map (·.add ((0:Int).toNat*sz)))=some ⟨g,o,none⟩:=by
  split
  .rfl
  simp [Addr.add]
 rw [e];exact hk
theorem G8 {t e sz bytes:Nat}{z:Value}{tok:Option Tok}{x y:Operand}{xs:List V}{h:Int}(ht:A8 P t e sz bytes z)(hx:F.ev x=some (.sl sz tok xs))(hy:F.ev y=some (.int h))(h0:0<=h)(h1:h<=xs.length)
  (hk:K (some (.sl sz none (xs.take h.toNat))) S):VOp P nt ⟨d, .slice t x none (some y) none,ty,pos,af,gd⟩ F S K:=
 Acs ht hx rfl (Hb hy) (Int.le_refl _) h0 h1 hk
theorem Drops.keepE {e e':Own}{S T:Af}(he:e=e')(h:Drops S T):Drops (e::S) (e'::T):=he ▸ Drops.keep h
def Aew {G:Type}(f:G->V):BL G:=λγs r=>∃x,γs= [x]/\r=some (f x)
theorem AfO {G:Type}{C:Prop}{r:Option V}{f:G->V}{y:G}(h:∃x,[y]= [x]/\r=some (f x))(k:r=some (f y)->C):C:=by
 obtain⟨x,hx,h⟩:=h;injection hx with hx;subst hx;exact k h
theorem AgA {G:Type}{r:Option V}{f:G->V}{y:G}(h:∃x,[y]= [x]/\r=some (f x)):r=some (f y):=AfO h id
def FY (ops:List Oper)(s:Nat):List Nat->Option Nat
 | []=>none
 | k::t=>bif Gl ops k s then some k else FY ops s t
theorem Ve {G:Type}{ops:List Oper}{F0:Fr}{ps:List DP}{acc:List (BL G)}{γ:Nat->G}{s j:Nat}{R:BL G}{r:Option V}(h2:nth acc j=some R):∀ {pre:List Nat},FY ops s pre=some j->E0 ops F0 ps acc γ s pre r->R ((A9 ps j).2.2.map γ) r
 | [],h,_=>by cases h
 | k::t,h,hl=>by
  rw [FY] at h;rw [E0] at hl
  cases hb:Gl ops k s with
  | true=>
   rw [hb,cond_true] at h hl;injection h with h;subst h;rw [h2] at hl;exact hl
  | false=>
   rw [hb,cond_false] at h hl;exact Ve h2 h hl
theorem Vf {G:Type}{ops:List Oper}{F0:Fr}{ps:List DP}{acc:List (BL G)}{γ:Nat->G}{s:Nat}{r:Option V}:∀ {pre:List Nat},FY ops s pre=none->E0 ops F0 ps acc γ s pre r->r=F0.get s
 | [],_,hl=>hl
 | k::t,h,hl=>by
  rw [FY] at h;rw [E0] at hl
  cases hb:Gl ops k s with
  | true=>rw [hb,cond_true] at h;cases h
  | false=>
   rw [hb,cond_false] at h hl;exact Vf h hl
theorem Ack {G:Type}{ops:List Oper}{F0:Fr}{ps:List DP}{acc:List (BL G)}{γ:Nat->G}{pre t:List Nat}{s:Nat}{k:Fr->Prop}(j:Nat){R:BL G}(h1:FY ops s pre=some j)(h2:nth acc j=some R)(h:∀r,R ((A9 ps j).2.2.map γ) r->CF ops F0 ps acc γ pre t λF=>k ((s,r)::F)):
  CF ops F0 ps acc γ pre (s::t) k:=λr hl=>h r (Ve h2 h1 hl)
theorem Acl {G:Type}{ops:List Oper}{F0:Fr}{ps:List DP}{acc:List (BL G)}{γ:Nat->G}{pre t:List Nat}{s:Nat}{k:Fr->Prop}(h1:FY ops s pre=none)(h:∀r,r=F0.get s->CF ops F0 ps acc γ pre t λF=>k ((s,r)::F)):
  CF ops F0 ps acc γ pre (s::t) k:=λr hl=>h r (Vf h1 hl)
theorem Wu {G:Type}{ops:List Oper}{F0:Fr}{ps:List DP}{acc:List (BL G)}{γ:Nat->G}{pre:List Nat}{k:Fr->Prop}(h:k []):CF ops F0 ps acc γ pre [] k:=h
theorem Aex {G:Type}{ops:List Oper}{F0:Fr}{ps:List DP}{un:List Nat}{acc:List (BL G)}{i:Nat}{o:Oper}{R:BL G}{A:Af}{B:G->Af}(hu:H3 un i 0=some 0)
  (h:∀γ:Nat->G,CF ops F0 ps acc γ (A9 ps i).1 (A9 ps i).2.1 λF=>GJ ops P nt o F A λr S'=>∃x,R ((A9 ps i).2.2.map (upd γ 0 x)) r/\S'=B x):FI ops F0 ps un (Ro A B) P nt i o acc R:=
 Aed 0 hu h
theorem Jl {ops l:List Oper}{Q':Fr->Af->Prop}{o:Oper}(hw:En ops F o=some false\/∃j want q,o.guard=some (j,want)/\(ops[j]?).bind (·.dst)=some q/\F.get q=some (.raw undef))(hd:JM nt o.dst=true)
  (h:Jn P nt ops l (F.put o.dst (some (.raw undef))) S Q'):Jn P nt ops (o::l) F S Q':=by
 intro m w a QQ hf hwr hK;refine wpList_step λK hKl=> ?_
 have hn:Region.wanted o (yielded ops.toArray a.tmps)=false:=by
  rcases hw with hw | ⟨j,want,q,h1,h2,h3⟩
  .exact KJ hf hw
  have hu:a.tmps.getD q undef=undef:=hf.get q _ h3;have hop:(ops.toArray[j]?).bind (·.dst)=some q:=by simpa using h2
  unfold Region.wanted;rw [h1];dsimp only;unfold yielded;rw [hop,Option.bind_some];rcases Nat.lt_or_ge q a.tmps.size with hl | hl
  .have:a.tmps[q]? =some undef:=by simpa [hl] using hu
   rw [this]
   cases want <;> rfl
  rw [Array.getElem?_eq_none hl]
  cases want <;> rfl
 rw [if_neg (by rw [hn];exact Bool.false_ne_true)];exact hKl _ _ (h m w _ QQ (hf.put hd (r:=some (.raw undef)) rfl) hwr hK)
instance:Inhabited Tok:=⟨.nil⟩
theorem Hu {cs:List Value}(h:∀c∈cs,c.oneCell'=true):(cs.map V.raw).all V.leaf=true:=by
 rw [Ya];intro x hx;obtain ⟨c,hc,rfl⟩:=List.mem_map.1 hx;exact h c hc
theorem G9 {m:Mem}:∀ {cs:List Value},RepL m (cs.map V.raw) cs
 | []=>rfl
 | c::cs=>⟨c,cs,rfl,rfl,G9⟩
theorem Fh {z:Value}{n:Nat}{c:Value}(h1:∀c∈z.cells.toList,c.oneCell'=true)(hc:c∈(Builtin.zeroCells z.cells n).toList):c.oneCell'=true:=by
 have:c∈Builtin.zeroCells z.cells n:=by simpa using hc
 unfold Builtin.zeroCells at this;simp only [Array.mem_map,Array.mem_range] at this;obtain ⟨i,hi,rfl⟩:=this
 have hp:0<z.cells.size:=by
  rcases Yy z.cells.size with h | h
  .rw [h] at hi;omega
  exact h
 have hlt:=Nat.mod_lt i hp;rw [getElem!_pos z.cells _ hlt];exact h1 _ (by simp)
theorem Lq {t e sz bytes:Nat}{z:Value}{s x:Operand}{A:Option Addr}{tx:Option Tok}{ys:List V}(ht:A8 P t e sz bytes z)(hz1:∀c∈z.cells.toList,c.oneCell'=true)(hs:F.ev s=some (.raw (.slice A 0 0)))(hx:F.ev x=some (.sl sz tx ys))
  (hy:0<ys.length) (hb:ys.length*bytes<=140737488355328) (hflat:∀y∈ys,y.flat=true)
  (hk:∀g cap rest,ys.length<=cap->cap<=maxLen->K (some (.raw (.slice (some ⟨g,0,none⟩) ys.length cap))) (.cells g e (ys.flatMap V.leaves++rest)::S)):
  VOp P nt ⟨d, .call ⟨.builtin .append, #[s,x], #[t,t]⟩,ty,pos,af,gd⟩ F S K:=by
 intro m w ac KK QQ hf hw hK;have hsv:ac.eval s= .slice A 0 0:=hf.ev hs;obtain ⟨ii,i1,i2,i3,i4⟩:=ht.info;have hpos:=ht.pos.1;have hbpos:=ht.pos.2;obtain ⟨news,hN,hsrc⟩:=P5 hpos ht.und hw (hf.ev hx);have hlen:ys.length<=140737488355328:=Yw (Yab _ hbpos) hb;have hsrc':Src P ii.size t (ac.eval x) ys.length news w:=by rw [i2];exact hsrc
 have hfc:(Builtin.firstCells ii.size 0 (.slice A 0 0)).run P w.drew= .ok ([]:List Value).toArray w.drew:=by
  cases A with
  | none=>exact run_firstCells_none w.drew ii.size 0 0 0
  | some a=>exact run_firstCells_some (P:=P) w.drew ii.size 0 a 0 0 [] (by simp) (λ j u h=>by simp at h)
 have hrun:=run_append_grow_src (P:=P) w t t ty e ii z ht.und i1 i4 A 0 0 [] hfc (ac.eval x) ys.length news hsrc' (by omega) (by omega) (growslice_fits (by omega) (by rw [i3,Yt];exact hb));have hge:=grownCap_ge w (0+ys.length) 0 e;have hcm:grownCap w (0+ys.length) 0 e<=maxLen:=grownCap_le_maxLen w _ 0 e (by simp only [maxLen];omega);unfold Oper.wp;simp only [BigFrame.execOp_builtin,BigFrame.builtin_append,Sem.run_bind];rw [show (#[s,x]:Array Operand).map ac.eval= #[ac.eval s,ac.eval x] from by simp,hsv,hrun];rw [Yt] at hge hcm ⊢;have hw1:=(A2.drew hw).rel
 have hall:(ys.flatMap V.leaves++(Builtin.zeroCells z.cells (grownCap w ys.length 0 e - ys.length)).toList.map V.raw).all V.leaf=true:=by
  rw [Ye,Bool.and_eq_true];refine ⟨?_,Hu λc hc=>Fh hz1 hc⟩;rw [Ya];intro x hx;obtain ⟨y,hy,hxy⟩:=Yl.1 hx;exact Ya.1 (hflat y hy) x hxy
 refine hK _ _ m _ _ (hk w.heap.size (grownCap w ys.length 0 e) _ hge hcm) rfl ((A2.drew hw).trans (A2.allocRow hw1 hall ?_));simp only [Ym,Array.toList_append];exact (hN.flatOf hflat).append G9
theorem Lr (i:Nat){t e sz bytes:Nat}{z:Value}{x:Operand}{g o len cap:Nat}{T:TypeId}{ls:List V}(ht:A8 P t e sz bytes z)(hz1:∀c∈z.cells.toList,c.oneCell'=true)(hx:F.ev x=some (.raw (.slice (some ⟨g,o,none⟩) len cap)))(hS:S[i]? =some (.cells g T ls))(hl:o+len*sz<=ls.length)
  (hk:∀r rest,K (some r) (S.set i (.cells g T (ls.take o++rest)))):VOp P nt ⟨d, .call ⟨.builtin .clear, #[x], #[t]⟩,ty,pos,af,gd⟩ F S K:=by
 intro m w ac KK QQ hf hw hK;have hxv:ac.eval x= .slice (some ⟨g,o,none⟩) len cap:=hf.ev hx;obtain ⟨ii,i1,i2,i3,i4⟩:=ht.info;obtain ⟨hall,⟨cs,hh,hr⟩,hm⟩:=Ch hw hS;have hcl:=hr.length;have hul:(Builtin.zeroCells z.cells len).toList.length=len*sz:=by rw [Fm,ht.cells]
 have h1:∀c∈(Builtin.zeroCells z.cells len).toList,c.oneCell'=true:=λc hc=>Fh hz1 hc;have hst:=run_storeCells_at (P:=P) g o T (Builtin.zeroCells z.cells len).toList 0 cs w hh (by simp at hcl hul ⊢;omega) h1
 have hrun:(execOp ac.eval ⟨d, .call ⟨.builtin .clear, #[x], #[t]⟩,ty,pos,af,gd⟩).run P w= .ok (.value (.tuple #[])) (if len=0 then w else w.setRow g (cs.toList.take (o+0)++(Builtin.zeroCells z.cells len).toList++cs.toList.drop (o+0+(Builtin.zeroCells z.cells len).toList.length)).toArray):=by
  by_cases h0:len=0
  .subst h0;simp [BigFrame.execOp_builtin,BigFrame.builtin_clear,Builtin.clear_,hxv,run_underlying ht.und]
  rw [if_neg h0];simp only [BigFrame.execOp_builtin,BigFrame.builtin_clear,Sem.run_bind];rw [show (#[x]:Array Operand).map ac.eval= #[ac.eval x] from by simp,hxv];simp only [Nat.add_zero] at hst ⊢;simp [Builtin.clear_,run_underlying ht.und,zeroValue,typeInfo,i1,i4,h0,hst]
 unfold Oper.wp;rw [hrun]
 by_cases h0:len=0
 .rw [if_pos h0];refine hK _ _ m _ (.tuple #[]) (hk (.raw (.tuple #[])) (ls.drop o)) rfl ?_;rw [List.take_append_drop]
  have:S.set i (.cells g T ls)=S:=by
   obtain⟨hl,he⟩:=Yd.1 hS;rw [<- he];exact List.set_getElem_self ..
  rw [this];exact A2.refl hw
 rw [if_neg h0];refine hK _ _ m _ (.tuple #[]) (hk (.raw (.tuple #[])) ((Builtin.zeroCells z.cells len).toList.map V.raw++ls.drop (o+len*sz))) rfl ?_;have hheap:=setRow_heap w g cs (cs.toList.take (o+0)++(Builtin.zeroCells z.cells len).toList++cs.toList.drop (o+0+(Builtin.zeroCells z.cells len).toList.length)).toArray T (0,0) hh;refine A2.update hw hS rfl rfl rfl rfl rfl (by simp [World.setRow]) (λ b hb=> ?_) (Sub.refl m) (λ b o v _ h=>h) (λ o' v' h=>by rw [hm o'] at h;cases h) ⟨?_,⟨_,hheap,?_⟩,hm⟩
 .simp [World.setRow,Array.getElem?_modify,Ne.symm hb]
 .rw [Ye,Ye,Bool.and_eq_true,Bool.and_eq_true];rw [Ya] at hall;exact ⟨Ya.2 λx hx=>hall x (Yp hx),Hu h1,Ya.2 λx hx=>hall x (List.mem_of_mem_drop hx)⟩
 simp only [Nat.add_zero];rw [Yc,hul];exact (hr.take o).append (G9.append (hr.drop (o+len*sz)))
end
end Go.VL
namespace Go.VL
section
variable {P:Program}{nt:Nat}{F:Fr}{S:Af}{K:Option V->Af->Prop}
variable {d:Option Tmp}{ty:TypeId}{pos:String}{af:Array Edge}{gd:Option (Nat×Bool)}
theorem JI (w:World)(n:Nat)(t:TypeId)(x y:Bool)(hu:P.underlying t=some .bool):(Op.equalIn (n+1) t (.bool x) (.bool y)).run P w= .ok (x==y) w:=by
 rw [Op.equalIn];simp [run_underlying hu]
theorem Mp (w:World)(t:TypeId)(x y:Bool)(hu:P.underlying t=some .bool):(Op.equal t (.bool x) (.bool y)).run P w= .ok (x==y) w:=by
 simp [Op.equal,Op.maxDepth,JI w 9999 t x y hu]
end
end Go.VL
namespace Go.VL
section
variable {P:Program}{nt:Nat}{F:Fr}{S:Af}{Q:Exit->Fr->Af->Prop}{K:Option V->Af->Prop}
variable {d:Option Tmp}{ty:TypeId}{pos:String}{af:Array Edge}{gd:Option (Nat×Bool)}
theorem Y8 {o:Oper}{K':Option V->Af->Prop}(h:VOp P nt o F S K')(hk:∀r S',K' r S'->∃v v' T,r=some v/\V.le v v'/\Drops S' T/\K (some v') T):VOp P nt o F S K:=by
 intro m w a KK QQ hf hw hK;refine h m w a KK QQ hf hw λr S' m' w' u hr hru st=> ?_;obtain ⟨v,v',T,rfl,hle,hd,hk'⟩:=hk r S' hr;exact hK _ T m' w' u hk' (hle _ _ hru) (st.trans (hd.step st.rel))
theorem Gb {α:Type}{e:α}:∀(l:List α) (i:Nat),(l.set i e).eraseIdx i=l.eraseIdx i
 | [],_=>rfl
 | a::l,0=>rfl
 | a::l,i+1=>by rw [List.set_cons_succ,List.eraseIdx_cons_succ,List.eraseIdx_cons_succ,Gb l i]
theorem Wv {t e sz bytes:Nat}{z:Value}{l c:Operand}{n:Int}(zv:V)(hz:∀m,Rep m zv z)(hzf:zv.fits sz=true)(ht:A8 P t e sz bytes z)(hl:F.ev l=some (.int n))(hc:F.ev c=some (.int n))(h0:0<=n)(hb:n*bytes<=281474976710656)
  (hk:K (some (.sl sz none (Yb n.toNat zv))) S):VOp P nt ⟨d, .makeSlice t l c,ty,pos,af,gd⟩ F S K:=by
 refine Y8 (K':=λr S'=>∃tok',r=some (.sl sz (some tok') (Yb n.toNat zv))/\S'= .buf tok' e sz n.toNat::S) (AeF zv hz hzf ht hl hc h0 hb λtok'=>⟨tok',rfl,rfl⟩) λr S' ⟨tok',h1,h2⟩=> ?_;subst h2;exact ⟨_,_,S,h1,V.le.strip,Drops.drop (Drops.refl _),hk⟩
end
end Go.VL
namespace Go.VL
section
variable {P:Program}{nt:Nat}{F:Fr}{S:Af}{Q:Exit->Fr->Af->Prop}{K:Option V->Af->Prop}
variable {d:Option Tmp}{ty:TypeId}{pos:String}{af:Array Edge}{gd:Option (Nat×Bool)}
def Q4 (P:Program)(f:FuncId)(args:List V)(T sz:Nat)(xs:List V):Prop:=AH P f args [] λr S'=>∃tok,r= .sl sz (some tok) xs/\S'= [.buf tok T sz xs.length]
theorem Ww {f:FuncId}{args:Array Operand}{ats:Array TypeId}(xs:List Operand){vs ys:List V}{T sz:Nat}(ha:args.toList=xs)(hv:evs F xs=some vs)(hen:Enters P f)(hc:Q4 P f vs T sz ys)
  (hk:∀tok,K (some (.sl sz (some tok) ys)) (.buf tok T sz ys.length::S)):VOp P nt ⟨d, .call ⟨.value (.func f),args,ats⟩,ty,pos,af,gd⟩ F S K:=
 KM xs [] S ha hv hen (.refl _) hc λr' Sa' ⟨tok,h1,h2⟩=>by subst h1;subst h2;exact hk tok
theorem Q4.pure {f:FuncId}{args:List V}{T sz:Nat}{xs:List V}(h:Q4 P f args T sz xs):AH P f args [] λr S'=>∃tok,r= .sl sz (some tok) xs/\S'= [.buf tok T sz xs.length]:=h
theorem Drops.pick {S T:Af}(i:Nat){e e':Own}(hS:S[i]? =some e)(he:e=e')(h:Drops (S.eraseIdx i) T):Drops S (e'::T):=by
 obtain⟨R,hp⟩:=h;subst he;exact ⟨R,(AX hS).trans ((hp.cons e).trans List.perm_middle.symm)⟩
theorem Drops.pickBuf {S T:Af}(i:Nat){t:Tok}{E sz n n':Nat}(hS:S[i]? =some (.buf t E sz n))(he:n=n')(h:Drops (S.eraseIdx i) T):Drops S (.buf t E sz n'::T):=Drops.pick i hS (by rw [he]) h
theorem FZ {x y:Code}(F1:Fr)(S1:Af)(h1:VW P nt x (Ra (λ F' S'=>Fr.sub F1 F'/\Drops S' S1) Q) F S)(h2:VW P nt y Q F1 S1):VW P nt (.seq x y) Q F S:=
 AeK _ h1 λF' S' ⟨hs,R,hp⟩=>VW.weaken hs hp (VW.drop h2)
theorem V.le.nilTok (sz:Nat):V.le V.nilSl (.sl sz (some .nil) []):=λm u h=>⟨none,0,h,Yv _,Nat.zero_le _,⟨rfl,rfl⟩, .inl rfl⟩
theorem BE (i:Nat){g:Nat}{T:TypeId}{ls ls':List V}{c:Code}(hS:S[i]? =some (.cells g T ls))(hle:V.les ls ls')(h:VW P nt c Q F (S.set i (.cells g T ls'))):VW P nt c Q F S:=by
 intro m w a QQ hf hw hK;have hd:dom (S.set i (.cells g T ls'))=dom S:=JN hS rfl
 have hrel:Cw m (S.set i (.cells g T ls')) w:=by
  refine⟨hw.agree,by rw [hd];exact hw.nodup,λe he=> ?_⟩;rcases Ja he with he | he
  .rw [he];obtain ⟨_,⟨cs,h1,h2⟩,h3⟩:=hw.holds _ (Yn hS);exact ⟨(hle.repL h2).2,⟨cs,h1,(hle.repL h2).1⟩,h3⟩
  exact hw.holds e he
 have hst:A2 m S w m (S.set i (.cells g T ls')) w:=⟨hrel,rfl,rfl,rfl,Yv _,λ_ _ _=>rfl,Sub.refl m,λ_ _ _ h=> .inl h,λb hb=> .inl (by rw [hd] at hb;exact hb)⟩;exact h m w a QQ hf hrel λe F' S' m' w' a' hq hf' st=>hK e F' S' m' w' a' hq hf' (hst.trans st)
theorem BR (T sz:Nat){c:Code}(h:VW P nt c Q F (.buf .nil T sz 0::S)):VW P nt c Q F S:=by
 intro m w a QQ hf hw hK;have hst:=Cw.nilBuf hw T sz .nil (.inl rfl);exact h m w a QQ hf hst.rel λe F' S' m' w' a' hq hf' st=>hK e F' S' m' w' a' hq hf' (hst.trans st)
end
end Go.VL
namespace Go.VL
section
variable {P:Program}{nt:Nat}{F:Fr}{S:Af}{K:Option V->Af->Prop}
variable {d:Option Tmp}{ty:TypeId}{pos:String}{af:Array Edge}{gd:Option (Nat×Bool)}
end
end Go.VL
namespace Go.VL
section
variable {P:Program}{nt:Nat}{F:Fr}{S:Af}{Q:Exit->Fr->Af->Prop}{K:Option V->Af->Prop}
variable {d:Option Tmp}{ty:TypeId}{pos:String}{af:Array Edge}{gd:Option (Nat×Bool)}
theorem Wx {f:FuncId}{vs vs':List V}{R:V->Af->Prop}(h:∀m us,RepL m vs us->RepL m vs' us)(k:AH P f vs' S R):AH P f vs S R:=λm w us ha hw=>k m w us (h m _ ha) hw
theorem P0 (w:World)(t:TypeId)(x y:Bool)(hu:P.underlying t=some .bool):(binOp .neq t (.bool x) (.bool y)).run P w= .ok (.bool (!(x==y))) w:=by
 simp only [binOp];simp [Mp w t x y hu]
theorem Y9 {t t2:TypeId}{x y:Operand}{a b:Bool}(hu:P.underlying t=some .bool)(hx:F.ev x=some (.bool a))(hy:F.ev y=some (.bool b))(hk:K (some (.bool (!(a==b)))) S):
  VOp P nt ⟨d, .binOp .neq t x y t2,ty,pos,af,gd⟩ F S K:=by
 refine AW (some (.bool (!(a==b)))) (λ m w ac hf hw=> ?_) hk;have ha:ac.eval x= .bool a:=hf.ev hx;have hb:ac.eval y= .bool b:=hf.ev hy;refine ⟨.bool (!(a==b)),?_,rfl⟩;have hg:(eqGuard .neq t x y (.bool a) (.bool b)).run P w= .ok () w:=rfl;simp only [execOp,ha,hb,Sem.run_bind,hg,Result.andThen_ok,P0 w t a b hu];rfl
end
end Go.VL
namespace Go.VL
section
variable {P:Program}{nt:Nat}{F:Fr}{S:Af}{K:Option V->Af->Prop}
variable {d:Option Tmp}{ty:TypeId}{pos:String}{af:Array Edge}{gd:Option (Nat×Bool)}
theorem ZB {t t2:TypeId}{x y:Operand}{a b:Int}(hx:F.ev x=some (.int a))(hy:F.ev y=some (.int b))(hb:b≠0)(hk:K (some (.int (a.tmod b))) S):
  VOp P nt ⟨d, .binOp .rem t x y t2,ty,pos,af,gd⟩ F S K:=by
 refine AW (some (.int (a.tmod b))) (λ m w ac hf hw=> ?_) hk;have ha:ac.eval x= .int .i64 a:=hf.ev hx;have hb':ac.eval y= .int .i64 b:=hf.ev hy;refine ⟨.int .i64 (a.tmod b),?_,rfl⟩;simp only [execOp,ha,hb',Sem.run_bind];simp [eqGuard,binOp,Op.intDiv,hb]
end
section
variable {P:Program}{nt:Nat}{F:Fr}{S:Af}{K:Option V->Af->Prop}
variable {d:Option Tmp}{ty:TypeId}{pos:String}{af:Array Edge}{gd:Option (Nat×Bool)}{cs:List Value}
abbrev V.u64 (b:BitVec 64):V:= .raw (.int .u64 (b.toNat:Int))
theorem Q5 (b:BitVec 64):IntKind.u64.wrap (b.toNat:Int)=(b.toNat:Int):=by
 have:=b.isLt;simp only [IntKind.wrap,IntKind.bits,IntKind.signed,Bool.false_and,Bool.false_eq_true,if_false];omega
theorem Ow (b:BitVec 64):BitVec.ofInt IntKind.u64.bits (b.toNat:Int)=b:=by
 show BitVec.ofInt 64 (b.toNat:Int)=b;simp
theorem P1 {t t2:TypeId}{x y:Operand}{a b:BitVec 64}(hx:F.ev x=some (.u64 a))(hy:F.ev y=some (.u64 b))(hk:K (some (.u64 (a &&& b))) S):
  VOp P nt ⟨d, .binOp .and t x y t2,ty,pos,af,gd⟩ F S K:=by
 refine AW (some (.u64 (a &&& b))) (λ m w ac hf hw=> ?_) hk;have ha:ac.eval x= .int .u64 a.toNat:=hf.ev hx;have hb:ac.eval y= .int .u64 b.toNat:=hf.ev hy;refine ⟨.int .u64 ((a &&& b:BitVec 64).toNat:Int),?_,rfl⟩;simp only [execOp,ha,hb,Sem.run_bind,Ds,Result.andThen_ok];have e:=Q5 (a &&& b);simp only [binOp,Op.intBits,Ow];simp [-BitVec.toNat_and,-BitVec.toNat_or];exact e
theorem Aey {t t2:TypeId}{x y:Operand}{a b:BitVec 64}(hx:F.ev x=some (.u64 a))(hy:F.ev y=some (.u64 b))(hk:K (some (.u64 (a ||| b))) S):
  VOp P nt ⟨d, .binOp .or t x y t2,ty,pos,af,gd⟩ F S K:=by
 refine AW (some (.u64 (a ||| b))) (λ m w ac hf hw=> ?_) hk;have ha:ac.eval x= .int .u64 a.toNat:=hf.ev hx;have hb:ac.eval y= .int .u64 b.toNat:=hf.ev hy;refine ⟨.int .u64 ((a ||| b:BitVec 64).toNat:Int),?_,rfl⟩;simp only [execOp,ha,hb,Sem.run_bind,Ds,Result.andThen_ok];have e:=Q5 (a ||| b);simp only [binOp,Op.intBits,Ow];simp [-BitVec.toNat_and,-BitVec.toNat_or];exact e
theorem Aez {t t2:TypeId}{x y:Operand}{a b:BitVec 64}(hx:F.ev x=some (.u64 a))(hy:F.ev y=some (.u64 b))(hk:K (some (.bool (a==b))) S):
  VOp P nt ⟨d, .binOp .eql t x y t2,ty,pos,af,gd⟩ F S K:=by
 refine AW (some (.bool (a==b))) (λ m w ac hf hw=> ?_) hk;have ha:ac.eval x= .int .u64 a.toNat:=hf.ev hx;have hb:ac.eval y= .int .u64 b.toNat:=hf.ev hy
 have e:((a.toNat:Int)==(b.toNat:Int))=(a==b):=by
  rw [Bool.eq_iff_iff,beq_iff_eq,beq_iff_eq];exact ⟨λ h=>BitVec.eq_of_toNat_eq (by omega),λh=>by rw [h]⟩
 refine⟨.bool (a==b),?_,rfl⟩;simp only [execOp,ha,hb,Sem.run_bind,Ds,Result.andThen_ok];simp [binOp,Op.intCmp,e]
theorem Acm {t t2:TypeId}{x y:Operand}{a:BitVec 64}{n:Nat}(hx:F.ev x=some (.u64 a))(hy:F.ev y=some (.int n))(hn:n<64)(hk:K (some (.u64 (a <<< n))) S):
  VOp P nt ⟨d, .binOp .shl t x y t2,ty,pos,af,gd⟩ F S K:=by
 refine AW (some (.u64 (a <<< n))) (λ m w ac hf hw=> ?_) hk;have ha:ac.eval x= .int .u64 a.toNat:=hf.ev hx;have hb:ac.eval y= .int .i64 n:=hf.ev hy
 have hmin:min (n:Int).toNat IntKind.u64.bits=n:=by
  show min (n:Int).toNat 64=n;omega
 have e:IntKind.u64.wrap ((a.toNat:Int)*2 ^ n)=((a <<< n).toNat:Int):=by
  rw [BitVec.toNat_shiftLeft,Nat.shiftLeft_eq];show ((a.toNat:Int)*2 ^ n) % ((2 ^ 64:Int))=_;rw [Int.natCast_emod,Int.natCast_mul,Yac,Yac];rfl
 refine⟨.int .u64 ((a <<< n:BitVec 64).toNat:Int),?_,rfl⟩;simp only [execOp,ha,hb,Sem.run_bind,Ds,Result.andThen_ok];simp only [binOp,Op.shift];rw [if_neg (by omega),hmin, <- e];simp
theorem Acn {t t2:TypeId}{x y:Operand}{a:BitVec 64}{n:Nat}(hx:F.ev x=some (.u64 a))(hy:F.ev y=some (.int n))(hn:n<64)(hk:K (some (.u64 (a >>> n))) S):
  VOp P nt ⟨d, .binOp .shr t x y t2,ty,pos,af,gd⟩ F S K:=by
 refine AW (some (.u64 (a >>> n))) (λ m w ac hf hw=> ?_) hk;have ha:ac.eval x= .int .u64 a.toNat:=hf.ev hx;have hb:ac.eval y= .int .i64 n:=hf.ev hy
 have hmin:min (n:Int).toNat IntKind.u64.bits=n:=by
  show min (n:Int).toNat 64=n;omega
 have e:(a.toNat:Int).fdiv (2 ^ n)=((a >>> n).toNat:Int):=by
  rw [BitVec.toNat_ushiftRight,Nat.shiftRight_eq_div_pow,Int.fdiv_eq_ediv_of_nonneg _ (Int.le_of_lt (Int.pow_pos (by omega))),Int.natCast_ediv,Yac];rfl
 refine⟨.int .u64 ((a >>> n:BitVec 64).toNat:Int),?_,rfl⟩;simp only [execOp,ha,hb,Sem.run_bind,Ds,Result.andThen_ok];simp only [binOp,Op.shift];rw [if_neg (by omega),hmin, <- e];simp
theorem ZC {t t2:TypeId}{x y:Operand}{a:Int}(hx:F.ev x=some (.int a))(hy:F.ev y=some (.int 2147483647))(hk:K (some (.int (a % 2147483648))) S):
  VOp P nt ⟨d, .binOp .and t x y t2,ty,pos,af,gd⟩ F S K:=by
 refine AW (some (.int (a % 2147483648))) (λ m w ac hf hw=> ?_) hk;have ha:ac.eval x= .int .i64 a:=hf.ev hx;have hb:ac.eval y= .int .i64 2147483647:=hf.ev hy
 have e:((BitVec.ofInt 64 a &&& BitVec.ofInt 64 2147483647).toNat:Int)=a % 2147483648:=by
  rw [BitVec.toNat_and,show(BitVec.ofInt 64 2147483647).toNat=2 ^ 31 - 1 from rfl,Nat.and_two_pow_sub_one_eq_mod,BitVec.toNat_ofInt];omega
 have e2:IntKind.i64.wrap (a % 2147483648)=a % 2147483648:=IntWalk.i64_in _ (by omega);refine ⟨_,?_,rfl⟩;simp only [execOp,ha,hb,Sem.run_bind,Ds,Result.andThen_ok];simp only [binOp,Op.intBits];simp [-BitVec.toNat_and,-BitVec.toNat_ofInt];exact (congrArg IntKind.i64.wrap e).trans e2
theorem ZD {t t2:TypeId}{x y:Operand}{a b:Int}(hx:F.ev x=some (.int a))(hy:F.ev y=some (.int b))(hb0:b≠0)(hr: -9223372036854775808<=a.tdiv b/\a.tdiv b<=9223372036854775807)(hk:K (some (.int (a.tdiv b))) S):
  VOp P nt ⟨d, .binOp .quo t x y t2,ty,pos,af,gd⟩ F S K:=by
 refine AW (some (.int (a.tdiv b))) (λ m w ac hf hw=> ?_) hk;have ha:ac.eval x= .int .i64 a:=hf.ev hx;have hb:ac.eval y= .int .i64 b:=hf.ev hy;refine ⟨_,?_,rfl⟩;simp only [execOp,ha,hb,Sem.run_bind,Ds,Result.andThen_ok];simp only [binOp,Op.intDiv];rw [IntWalk.i64_in _ hr];simp [hb0]
theorem AK {t e n:Nat}{x ix:Operand}{g o:Nat}{k:Int}(ht:P.underlying t=some (.array n e))(hsz:(P.info? e).map (·.size)=some 1)(hx:F.ev x=some (.ptr g o))(hi:F.ev ix=some (.int k))(h0:0<=k)(h1:k<n)
  (hk:K (some (.ptr g (o+k.toNat))) S):VOp P nt ⟨d, .indexAddr t x ix,ty,pos,af,gd⟩ F S K:=by
 refine AW (some (.ptr g (o+k.toNat))) (λ m w ac hf hw=> ?_) hk;have ha:ac.eval x= .pointer (some ⟨g,o,none⟩):=hf.ev hx;have hb:ac.eval ix= .int .i64 k:=hf.ev hi;refine ⟨.pointer (some ⟨g,o+k.toNat,none⟩),?_,rfl⟩;simp only [execOp,ha,hb,Instr.indexAt,asIntOf,Sem.run_bind,Sem.run_pure,Result.andThen_ok,run_underlying ht,Instr.sureAddr,Ez hsz];simp [h0,h1,Ez hsz,CD]
theorem Ls {t e:TypeId}(hu:P.underlying t=some (.array 2 e))(he:P.underlying e=some (.int .u64))(hsz:(P.info? e).map (·.size)=some 1)(w:World)(a b c d:Int):
  (Op.equal t (.agg #[.int .u64 a, .int .u64 b]) (.agg #[.int .u64 c, .int .u64 d])).run P w= .ok (a==c&&b==d) w:=by
 have hag:∀w,(isAgg e).run P w= .ok false w:=λw=>by simp [isAgg,run_underlying he]
 have hs:∀w,(sizeOf e).run P w= .ok 1 w:=λw=>Ez hsz
 have hi:∀(w:World) (x y:Int),(Op.equalIn 9999 e (.int .u64 x) (.int .u64 y)).run P w= .ok (x==y) w:=λw x y=>by
  rw [show (9999:Nat)=9998+1 from rfl,Op.equalIn];simp [run_underlying he]
 unfold Op.equal;rw [show Op.maxDepth=9999+1 from rfl,Op.equalIn];simp only [Sem.run_bind,run_underlying hu,Result.andThen_ok,hs];simp only [Std.Legacy.Range.forIn_eq_forIn_range',Std.Legacy.Range.size,Nat.sub_zero,Nat.add_sub_cancel,Nat.div_one,List.range'_succ,List.range'_zero,List.forIn_cons,List.forIn_nil];simp only [part,Sem.run_bind,hag,Result.andThen_ok]
 by_cases h1:a=c <;> by_cases h2:b=d <;> simp [h1,h2,hi,hag,hs]
theorem Vg {t e t2:TypeId}{x y:Operand}{a b c d':BitVec 64}(hu:P.underlying t=some (.array 2 e))(he:P.underlying e=some (.int .u64))(hsz:(P.info? e).map (·.size)=some 1)(hg:P.eqGuardType P.depth t=false)
  (hx:F.ev x=some (.agg [.u64 a, .u64 b])) (hy:F.ev y=some (.agg [.u64 c, .u64 d'])) (hk:K (some (.bool (!(a==c&&b==d')))) S):
  VOp P nt ⟨d, .binOp .neq t x y t2,ty,pos,af,gd⟩ F S K:=by
 refine AW (some (.bool (!(a==c&&b==d')))) (λ m w ac hf hw=> ?_) hk
 have two:∀ {p q:BitVec 64} {u:Value},Rep m (.agg [.u64 p, .u64 q]) u->u= .agg #[.int .u64 p.toNat, .int .u64 q.toNat]:=by
  rintro p q u ⟨_,cs,rfl,u1,us1,e1,r1,u2,us2,e2,r2,e3⟩;have e3':us2= []:=e3;have r1':u1= .int .u64 p.toNat:=r1;have r2':u2= .int .u64 q.toNat:=r2;subst e3' r1' r2';rw [e2] at e1
  congr 1
  exact Array.ext' e1
 have ha:=two (hf.ev hx);have hb:=two (hf.ev hy)
 have hn:∀p q:BitVec 64,(((p.toNat:Int))==(q.toNat:Int))=(p==q):=λp q=>by
  rw [Bool.eq_iff_iff,beq_iff_eq,beq_iff_eq];exact ⟨λ h=>BitVec.eq_of_toNat_eq (by omega),λh=>by rw [h]⟩
 refine⟨.bool (!(a==c&&b==d')),?_,rfl⟩;simp only [execOp,ha,hb,Sem.run_bind,eqGuard];simp only [binOp,Sem.run_bind,Ls hu he hsz,Result.andThen_ok,hn];simp [hg,Ls hu he hsz,hn]
theorem Ey {κ:Type}[DecidableEq κ]{kv:κ->Value}{kt:TypeId}{t et:TypeId}{x ix:Operand}{g:Nat}(i:Nat){k:κ}{l:List (κ×V)}{z:Value}(zv:V)(hzv:∀m,Rep m zv z)(ht:P.underlying t=some (.map kt et))(hkt:JS P kt kv)(hz:(P.info? et).map (·.zero)=some (some z))
  (hx:F.ev x=some (.raw (.map (some g)))) (hi:F.ev ix=some (.raw (kv k))) (hS:S[i]? =some (.map g (Bb kv l))) (hk:K (some ((C7 l k).getD zv)) S):VOp P nt ⟨d, .lookup t x ix false,ty,pos,af,gd⟩ F S K:=by
 cases hg:C7 l k with
 | none=>rw [hg] at hk;exact WM i zv hzv ht hkt hz hx hi hS hg hk
 | some v=>rw [hg] at hk;exact Hd i ht hkt hz hx hi hS hg hk
theorem H1 {κ:Type}[DecidableEq κ]{kv:κ->Value}{kt:TypeId}{t et:TypeId}{x ix:Operand}{g:Nat}(i:Nat){k:κ}{l:List (κ×V)}{z:Value}(zv:V)(hzv:∀m,Rep m zv z)(ht:P.underlying t=some (.map kt et))(hkt:JS P kt kv)(hz:(P.info? et).map (·.zero)=some (some z))
  (hx:F.ev x=some (.raw (.map (some g)))) (hi:F.ev ix=some (.raw (kv k))) (hS:S[i]? =some (.map g (Bb kv l))) (hk:K (some (.tup [(C7 l k).getD zv, .bool (C7 l k).isSome])) S):VOp P nt ⟨d, .lookup t x ix true,ty,pos,af,gd⟩ F S K:=by
 cases hg:C7 l k with
 | none=>rw [hg] at hk;exact TH i zv hzv ht hkt hz hx hi hS hg hk
 | some v=>rw [hg] at hk;exact TG i ht hkt hz hx hi hS hg hk
theorem GN (i:Nat){t e sz bytes:Nat}{z:Value}{s x:Operand}{g len cap:Nat}{tx:Option Tok}{ys ls:List V}(ht:A8 P t e sz bytes z)(hz1:∀c∈z.cells.toList,c.oneCell'=true)(hs:F.ev s=some (.raw (.slice (some ⟨g,0,none⟩) len cap)))(hx:F.ev x=some (.sl sz tx ys))
  (hS:S[i]? =some (.cells g e ls)) (hll:ls.length=cap*sz) (hlc:len<=cap) (hcm:cap<=maxLen) (hb:(len+ys.length)*bytes<=140737488355328) (hflat:∀y∈ys,y.flat=true)
  (hk:∀g' cap' rest,len+ys.length<=cap'->cap'<=maxLen->(ls.take (len*sz)++(ys.flatMap V.leaves++rest)).length=cap'*sz->K (some (.raw (.slice (some ⟨g',0,none⟩) (len+ys.length) cap'))) (S.set i (.cells g' e (ls.take (len*sz)++(ys.flatMap V.leaves++rest))))):
  VOp P nt ⟨d, .call ⟨.builtin .append, #[s,x], #[t,t]⟩,ty,pos,af,gd⟩ F S K:=by
 intro m w ac KK QQ hf hw hK;have hsv:ac.eval s= .slice (some ⟨g,0,none⟩) len cap:=hf.ev hs;obtain ⟨ii,i1,i2,i3,i4⟩:=ht.info;have hpos:=ht.pos.1;have hbpos:=ht.pos.2;obtain ⟨news,hN,hsrc⟩:=P5 hpos ht.und hw (hf.ev hx);have hlen:len+ys.length<=140737488355328:=Yw (Yab _ hbpos) hb;have hsrc':Src P ii.size t (ac.eval x) ys.length news w:=by rw [i2];exact hsrc
 obtain⟨hleaf,⟨cs,hh,hrep⟩,hfree⟩:=Ch hw hS;have hcsl:cs.size=cap*sz:=by rw [<- hll, <- hrep.length,Array.length_toList]
 have happ:∀(w:World),(execOp ac.eval ⟨d, .call ⟨.builtin .append, #[s,x], #[t,t]⟩,ty,pos,af,gd⟩).run P w=((Builtin.append_ #[t,t] ty #[ac.eval s,ac.eval x]).run P w).andThen λv w'=> .ok (.value v) w':=λw=>by
  simp only [BigFrame.execOp_builtin,BigFrame.builtin_append,Sem.run_bind];simp
 have hNl:=hN.length;have hle:len*sz<=cap*sz:=Nat.mul_le_mul_right _ hlc;have hrepN:=hN.flatOf hflat;rcases Nat.lt_or_ge cap (len+ys.length) with hlt | hge
 .-- a new row
  have hfc:(Builtin.firstCells ii.size len (.slice (some ⟨g,0,none⟩) len cap)).run P w.drew= .ok (cs.toList.take (len*sz)).toArray w.drew:=by
   rw [i2];refine run_firstCells_some (P:=P) w.drew sz len ⟨g,0,none⟩ len cap _ (by rw [Yh,Array.length_toList,hcsl];omega) λj u hju=> ?_;rw [CD,Yt];refine (World.cell?_drew w _).trans (F3 hh ?_);rw [List.getElem?_take] at hju;split at hju
   .exact hju
   cases hju
  have hrun:=run_append_grow_src (P:=P) w t t ty e ii z ht.und i1 i4 (some ⟨g,0,none⟩) len cap _ hfc (ac.eval x) ys.length news hsrc' hlt (by omega) (growslice_fits hlt (by rw [i3];exact hb));unfold Oper.wp;rw [happ,hsv,hrun];have hge:=grownCap_ge w (len+ys.length) cap e;have hcm':grownCap w (len+ys.length) cap e<=maxLen:=grownCap_le_maxLen w _ cap e (by simp only [maxLen];omega);have hw1:Cw m (S.eraseIdx i) w.drew:=(hw.perm (AX hS)).tail |> λh=>(A2.drew h).rel
  have hrep2:RepL m (ls.take (len*sz)++(ys.flatMap V.leaves++(Builtin.zeroCells z.cells (grownCap w (len+ys.length) cap e - (len+ys.length))).toList.map V.raw))
    (cs.toList.take (len*sz)++(news++(Builtin.zeroCells z.cells (grownCap w (len+ys.length) cap e - (len+ys.length))).toList)):=(hrep.take _).append (hrepN.append G9)
  have hall:(ls.take (len*sz)++(ys.flatMap V.leaves++(Builtin.zeroCells z.cells (grownCap w (len+ys.length) cap e - (len+ys.length))).toList.map V.raw)).all V.leaf=true:=by
   rw [Ye,Ye,Bool.and_eq_true,Bool.and_eq_true];refine ⟨?_,?_,Hu λc hc=>Fh hz1 hc⟩
   .rw [Ya] at hleaf ⊢;exact λx hx=>hleaf x (Yp hx)
   rw [Ya];intro x hx;obtain ⟨y,hy,hxy⟩:=Yl.1 hx;exact Ya.1 (hflat y hy) x hxy
  have hst:=A2.allocRow (T:=e) (cs:=((cs.toList.take (len*sz)++news).toArray++Builtin.zeroCells z.cells (grownCap w (len+ys.length) cap e - (len+ys.length)))) hw1 hall (by simpa using hrep2);have hstep:=(((A2.drop1 (hw.perm (AX hS))).permL (AX hS)).trans (A2.drew (hw.perm (AX hS)).tail)).trans (hst.permR (MB hS));refine hK _ _ m _ _ (hk w.heap.size _ ((Builtin.zeroCells z.cells (grownCap w (len+ys.length) cap e - (len+ys.length))).toList.map V.raw) hge hcm' ?_) rfl ?_
  .have l1:cs.toList.length=cap*sz:=by simp [hcsl]
   have l2:(Builtin.zeroCells z.cells (grownCap w (len+ys.length) cap e - (len+ys.length))).toList.length=(grownCap w (len+ys.length) cap e - (len+ys.length))*sz:=by
    have:=Fm z (grownCap w (len+ys.length) cap e - (len+ys.length));rw [ht.cells] at this;simpa using this
   rw [<- hrep2.length,Yk,Yk,hNl,Yh,l1,l2,Nat.min_eq_left hle, <- Yx, <- Yx]
   congr 1
   omega
  exact hstep
 .-- there is room: in place
  have hfit:len*sz+news.length<=cs.size:=by rw [hNl,hcsl, <- Yx];exact Nat.mul_le_mul_right _ hge
  have hrun:=run_append_room_src (P:=P) w t t ty e ii ht.und i1 g 0 len cap (ac.eval x) ys.length news hsrc' hge
   (λ j hj=>by simp [World.cell?,hh,i2];omega) (λ j hj=>by simp [World.frozen?,hh])
  rw [i2,Yt] at hrun;unfold Oper.wp;rw [happ,hsv,hrun];obtain ⟨cs',hh',hs',hget⟩:=Fk g e news (len*sz) w cs hh hfit;obtain ⟨r1,r2,r3,r4⟩:=Fl g news (len*sz) w
  have hcs':cs'.toList=cs.toList.take (len*sz)++(news++cs.toList.drop (len*sz+news.length)):=by
   apply List.ext_getElem?;intro o;rw [hget o]
   by_cases h1:o<len*sz
   .rw [if_neg (by omega),Yo (by rw [Yh,Array.length_toList];omega),List.getElem?_take_of_lt h1]
   have hto:(cs.toList.take (len*sz)).length=len*sz:=by rw [Yh,Array.length_toList];omega
   rw [Yr (by omega),hto]
   by_cases h2:o<len*sz+news.length
   .rw [if_pos ⟨by omega,h2⟩,Yo (by omega)]
   rw [if_neg (by omega),Yr (by omega),List.getElem?_drop]
   congr 1
   omega
  have hrep2:RepL m (ls.take (len*sz)++(ys.flatMap V.leaves++ls.drop (len*sz+news.length))) cs'.toList:=by
   rw [hcs'];exact (hrep.take _).append (hrepN.append (hrep.drop _))
  have hall:(ls.take (len*sz)++(ys.flatMap V.leaves++ls.drop (len*sz+news.length))).all V.leaf=true:=by
   rw [Ye,Ye,Bool.and_eq_true,Bool.and_eq_true];rw [Ya] at hleaf;refine ⟨?_,?_,?_⟩
   .rw [Ya];exact λx hx=>hleaf x (Yp hx)
   .rw [Ya];intro x hx;obtain ⟨y,hy,hxy⟩:=Yl.1 hx;exact Ya.1 (hflat y hy) x hxy
   rw [Ya];exact λx hx=>hleaf x (List.mem_of_mem_drop hx)
  refine hK _ _ m _ _ (hk g cap (ls.drop (len*sz+news.length)) hge hcm ?_) rfl ?_
  .rw [<- hrep2.length,Array.length_toList,hs',hcsl]
  exact A2.update hw hS rfl rfl r1 r2 r3 r4 (λ b hb=>Ek g news _ w b hb) (Sub.refl m) (λ b o v _ h=>h) (λ o v hv=>by rw [hfree o] at hv;cases hv) ⟨hall,⟨cs',hh',hrep2⟩,hfree⟩
theorem P2 {t e sz bytes:Nat}{z:Value}{s x:Operand}{v:V}{tx:Option Tok}{ys:List V}(ht:A8 P t e sz bytes z)(hz1:∀c∈z.cells.toList,c.oneCell'=true)(hs:F.ev s=some v)(hv:∀m u,Rep m v u->∃A,u= .slice A 0 0)(hx:F.ev x=some (.sl sz tx ys))
  (hy:0<ys.length) (hb:ys.length*bytes<=140737488355328) (hflat:∀y∈ys,y.flat=true)
  (hk:∀g cap rest,ys.length<=cap->cap<=maxLen->(ys.flatMap V.leaves++rest).length=cap*sz->K (some (.raw (.slice (some ⟨g,0,none⟩) ys.length cap))) (.cells g e (ys.flatMap V.leaves++rest)::S)):
  VOp P nt ⟨d, .call ⟨.builtin .append, #[s,x], #[t,t]⟩,ty,pos,af,gd⟩ F S K:=by
 intro m w ac KK QQ hf hw hK;obtain ⟨A,hsv⟩:=hv m _ (hf.ev hs);obtain ⟨ii,i1,i2,i3,i4⟩:=ht.info;have hpos:=ht.pos.1;have hbpos:=ht.pos.2;obtain ⟨news,hN,hsrc⟩:=P5 hpos ht.und hw (hf.ev hx);have hlen:ys.length<=140737488355328:=Yw (Yab _ hbpos) hb;have hsrc':Src P ii.size t (ac.eval x) ys.length news w:=by rw [i2];exact hsrc
 have hfc:(Builtin.firstCells ii.size 0 (.slice A 0 0)).run P w.drew= .ok ([]:List Value).toArray w.drew:=by
  cases A with
  | none=>exact run_firstCells_none w.drew ii.size 0 0 0
  | some a=>exact run_firstCells_some (P:=P) w.drew ii.size 0 a 0 0 [] (by simp) (λ j u h=>by simp at h)
 have hrun:=run_append_grow_src (P:=P) w t t ty e ii z ht.und i1 i4 A 0 0 [] hfc (ac.eval x) ys.length news hsrc' (by omega) (by omega) (growslice_fits (by omega) (by rw [i3,Yt];exact hb));have hge:=grownCap_ge w (0+ys.length) 0 e;have hcm:grownCap w (0+ys.length) 0 e<=maxLen:=grownCap_le_maxLen w _ 0 e (by simp only [maxLen];omega);unfold Oper.wp;simp only [BigFrame.execOp_builtin,BigFrame.builtin_append,Sem.run_bind];rw [show (#[s,x]:Array Operand).map ac.eval= #[ac.eval s,ac.eval x] from by simp,hsv,hrun];rw [Yt] at hge hcm ⊢;have hw1:=(A2.drew hw).rel
 have hall:(ys.flatMap V.leaves++(Builtin.zeroCells z.cells (grownCap w ys.length 0 e - ys.length)).toList.map V.raw).all V.leaf=true:=by
  rw [Ye,Bool.and_eq_true];refine ⟨?_,Hu λc hc=>Fh hz1 hc⟩;rw [Ya];intro x hx;obtain ⟨y,hy,hxy⟩:=Yl.1 hx;exact Ya.1 (hflat y hy) x hxy
 have hll:(ys.flatMap V.leaves++(Builtin.zeroCells z.cells (grownCap w ys.length 0 e - ys.length)).toList.map V.raw).length=grownCap w ys.length 0 e*sz:=by
  have h1:=(hN.flatOf hflat).length;rw [hN.length] at h1;rw [Yk,List.length_map, <- h1,Fm,ht.cells, <- Yx]
  congr 1
  omega
 refine hK _ _ m _ _ (hk w.heap.size (grownCap w ys.length 0 e) _ hge hcm hll) rfl ((A2.drew hw).trans (A2.allocRow hw1 hall ?_));simp only [Ym,Array.toList_append];exact (hN.flatOf hflat).append G9
theorem Hv {t e sz bytes:Nat}{z:Value}{s x:Operand}{A:Option Addr}{tx:Option Tok}{ys:List V}(ht:A8 P t e sz bytes z)(hz1:∀c∈z.cells.toList,c.oneCell'=true)(hs:F.ev s=some (.raw (.slice A 0 0)))(hx:F.ev x=some (.sl sz tx ys))
  (hy:0<ys.length) (hb:ys.length*bytes<=140737488355328) (hflat:∀y∈ys,y.flat=true)
  (hk:∀g cap rest,ys.length<=cap->cap<=maxLen->(ys.flatMap V.leaves++rest).length=cap*sz->K (some (.raw (.slice (some ⟨g,0,none⟩) ys.length cap))) (.cells g e (ys.flatMap V.leaves++rest)::S)):
  VOp P nt ⟨d, .call ⟨.builtin .append, #[s,x], #[t,t]⟩,ty,pos,af,gd⟩ F S K:=by
 exact P2 ht hz1 hs (λ m u h=>⟨A,h⟩) hx hy hb hflat hk
theorem JJ:V.les [] []:=trivial
theorem CC {a:V}{as bs:List V}(ha:a.leaf=true)(h:V.les as bs):V.les (a::as) (a::bs):=⟨V.le.refl _,ha,h⟩
theorem I9 (sz:Nat){as bs:List V}(h:V.les as bs):V.les (V.nilSl::as) (.sl sz none []::bs):=⟨V.le.nil sz,rfl,h⟩
theorem AfP {sz:Nat}{t:Option Tok}{xs:List V}{as bs:List V}(h:V.les as bs):V.les (.sl sz t xs::as) (.sl sz none xs::bs):=⟨V.le.strip,rfl,h⟩
theorem Tz (i o:Nat){g:Nat}{T:TypeId}{ls xs:List V}{sz:Nat}{tok:Option Tok}{c:Code}{Q:Exit->Fr->Af->Prop}(hS:S[i]? =some (.cells g T ls))(hv:ls[o]? =some (.sl sz tok xs))(h:xs.length<=maxLen->VW P nt c Q F S):VW P nt c Q F S:=by
 intro m w a QQ hf hw hK;obtain ⟨_,⟨cs,hh,hr⟩,_⟩:=Ch hw hS;obtain ⟨u,_,A,cap,_,h1,h2,_⟩:=hr.get hv;exact h (Yw h1 h2) m w a QQ hf hw hK
theorem A5 {c:Code}{Q:Exit->Fr->Af->Prop}{S':Af}(hp:S.Perm S')(h:VW P nt c Q F S'):VW P nt c Q F S:=
 λm w a QQ hf hw hK=>h m w a QQ hf (hw.perm hp) λe F' S' m' w' a' k hf' st=>hK e F' S' m' w' a' k hf' (st.permL hp)
theorem CS {c:Code}{Q:Exit->Fr->Af->Prop}{S':Af}(hd:Drops S S')(h:VW P nt c Q F S'):VW P nt c Q F S:=
 λm w a QQ hf hw hK=>h m w a QQ hf (hd.step hw).rel λe F' S'' m' w' a' k hf' st=>hK e F' S'' m' w' a' k hf' ((hd.step hw).trans st)
theorem ZE (n:Nat):(Yb n V.nilSl).flatMap V.leaves=Yb n V.nilSl:=by
 induction n with
 | zero=>rfl
 | succ n ih=>rw [Yf,Yg,ih];rfl
theorem Mq (T sz:Nat){c:Code}{Q:Exit->Fr->Af->Prop}:∀(n:Nat) {S:Af},VW P nt c Q F (S++Yb n (.buf .nil T sz 0))->VW P nt c Q F S
 | 0,S,h=>by simpa using h
 | n+1,S,h=>BR T sz (Mq T sz n (A5 (by
   rw [Yf];exact (List.perm_middle (a:=Own.buf .nil T sz 0) (l₁:=S) (l₂:=Yb n (.buf .nil T sz 0))).symm) h))
def HW (toks:List Tok)(P:List (List Int)):List V:=List.zipWith (λ t l=>V.sl 1 (some t) (l.map V.int)) toks P
def JK (T:Nat)(toks:List Tok)(P:List (List Int)):Af:=List.zipWith (λ t l=>Own.buf t T 1 l.length) toks P
theorem Q6:∀(toks:List Tok) (P:List (List Int)),toks.length=P.length->V.les (HW toks P) (P.map λl=> .sl 1 none (l.map V.int))
 | [],[],_=>trivial
 | t::ts,l::P,h=>AfP (Q6 ts P (by simpa using h))
 | [],_::_,h=>by simp at h
 | _::_,[],h=>by simp at h
theorem Mr:∀n:Nat,V.les (Yb n V.nilSl) (HW (Yb n .nil) (Yb n []))
 | 0=>trivial
 | n+1=>by
  have:=Mr n;rw [Yf,Yf,Yf];exact ⟨V.le.nilTok 1,rfl,this⟩
theorem Ox (T:Nat):∀n:Nat,JK T (Yb n .nil) (Yb n [])=Yb n (.buf .nil T 1 0)
 | 0=>rfl
 | n+1=>by
  have:=Ox T n;rw [Yf,Yf,Yf, <- this];rfl
theorem ZF {toks:List Tok}{P:List (List Int)}{k:Nat}{t:Tok}{l:List Int}(h1:toks[k]? =some t)(h2:P[k]? =some l):(HW toks P)[k]? =some (.sl 1 (some t) (l.map V.int)):=by
 rw [HW,List.getElem?_zipWith,h1,h2]
theorem Jm (T:Nat):∀ {toks:List Tok} {P:List (List Int)} {k:Nat} {t:Tok} {l:List Int},toks[k]? =some t->P[k]? =some l->(JK T toks P).Perm (.buf t T 1 l.length::JK T (toks.eraseIdx k) (P.eraseIdx k))
 | y::A,m::h,0,x,l,h1,h2=>by
  simp at h1 h2;subst h1 h2;exact .refl _
 | y::A,m::h,k+1,x,l,h1,h2=>by
  simp at h1 h2;have ih:=Jm T h1 h2;exact (ih.cons _).trans (List.Perm.swap _ _ _)
 | [],_,_,_,_,h1,_=>by simp at h1
 | _::_,[],_,_,_,_,h2=>by simp at h2
theorem Q7:∀ {toks:List Tok} {P:List (List Int)} (k:Nat) (t:Tok) (l:List Int),(HW toks P).set k (.sl 1 (some t) (l.map V.int))=HW (toks.set k t) (P.set k l)
 | y::A,m::h,0,t,l=>rfl
 | y::A,m::h,k+1,t,l=>by
  show _::(HW A h).set k _=_;rw [Q7 k t l];rfl
 | [],_,_,_,_=>by simp [HW]
 | _::_,[],_,_,_=>by simp [HW]
theorem Wy (toks:List Tok)(P:List (List Int))(k:Nat)(t:Tok)(l:List Int)(x:Int):(HW toks P).set k (.sl 1 (some t) (l.map V.int++ [V.int x]))++ []=HW (toks.set k t) (P.set k (l++ [x])):=by
 rw [List.append_nil, <- Q7,List.map_append];rfl
theorem Wz (T:Nat){toks:List Tok}{P:List (List Int)}{k:Nat}{t t':Tok}{l l':List Int}(h1:toks[k]? =some t)(h2:P[k]? =some l):(.buf t' T 1 l'.length::JK T (toks.eraseIdx k) (P.eraseIdx k)).Perm (JK T (toks.set k t') (P.set k l')):=by
 have h3:(toks.set k t')[k]? =some t':=by rw [Yq,if_pos rfl,if_pos (Yd.1 h1).1]
 have h4:(P.set k l')[k]? =some l':=by rw [Yq,if_pos rfl,if_pos (Yd.1 h2).1]
 have:=(Jm T h3 h4).symm
 rwa [Gb,Gb] at this
theorem ZG {toks:List Tok}{P:List (List Int)}(h:toks.length=P.length):(HW toks P).length=P.length:=by simp [HW,h]
theorem Zc {ops l:List Oper}{Q:Fr->Af->Prop}{o:Oper}(h:VOp P nt o F S λr S'=>Jn P nt ops l (F.put o.dst r) S' Q)(hw:En ops F o=some true:=by rfl)(hd:JM nt o.dst=true:=by rfl):Jn P nt ops (o::l) F S Q:=KL hw hd h
theorem Zk1 {ops l:List Oper}{Q:Fr->Af->Prop}{o:Oper}{j q:Nat}{b:Bool}(h:b=false)(k:Jn P nt ops l (F.put o.dst (some (.raw undef))) S Q)(hg:o.guard=some (j,true):=by rfl)(hd:(ops[j]?).bind (·.dst)=some q:=by rfl)(hF:F.get q=some (.bool b):=by rfl)(hdst:JM nt o.dst=true:=by rfl):Jn P nt ops (o::l) F S Q:=Jl (.inl (P7 hg hd hF h)) hdst k
theorem Zk0 {ops l:List Oper}{Q:Fr->Af->Prop}{o:Oper}{j q:Nat}{b:Bool}(h:b=true)(k:Jn P nt ops l (F.put o.dst (some (.raw undef))) S Q)(hg:o.guard=some (j,false):=by rfl)(hd:(ops[j]?).bind (·.dst)=some q:=by rfl)(hF:F.get q=some (.bool b):=by rfl)(hdst:JM nt o.dst=true:=by rfl):Jn P nt ops (o::l) F S Q:=Jl (.inl (P7 hg hd hF h)) hdst k
theorem Zy1 {ops:List Oper}{o:Oper}{j q:Nat}{b:Bool}(h:b=true)(hg:o.guard=some (j,true):=by rfl)(hd:(ops[j]?).bind (·.dst)=some q:=by rfl)(hF:F.get q=some (.bool b):=by rfl):En ops F o=some true:=P6 hg hd hF h
theorem Zy0 {ops:List Oper}{o:Oper}{j q:Nat}{b:Bool}(h:b=false)(hg:o.guard=some (j,false):=by rfl)(hd:(ops[j]?).bind (·.dst)=some q:=by rfl)(hF:F.get q=some (.bool b):=by rfl):En ops F o=some true:=P6 hg hd hF h
theorem Vh {p:Nat->Prop}(h:∀j,p j):∀l:List Nat,ZZ l p
 | []=>trivial
 | _::l=>⟨h _,Vh h l⟩
theorem AfQ {G:Type}[Inhabited G]{ops:List Oper}{F0:Fr}{ps:List DP}{un:List Nat}{St:Nat->List G->Af}{i:Nat}{o:Oper}{acc:List (BL G)}{R:BL G}(hu:H3 un i 0=none)
  (h:∀(S:Af) (γ:Nat->G),CF ops F0 ps acc γ (A9 ps i).1 (A9 ps i).2.1 λF=>GJ ops P nt o F S λr S'=>R ((A9 ps i).2.2.map γ) r/\S'=S):FI ops F0 ps un St P nt i o acc R:=
 Aec hu rfl (Vh (λ j γ=>h _ γ) _)
def dn:Nat->List Nat
 | 0=> []
 | n+1=>n::dn n
theorem Aco {α:Type}{l:List α}{j j':Nat}{R:α}(h2:nth l j'=some R)(h3:Ys (j'+j+1) l.length=true):nth l.reverse j=some R:=by
 have h3:=Yaa h3;rw [DR] at h2 ⊢;rw [List.getElem?_reverse (by omega), <- h2]
 congr 1
 omega
section
variable {G:Type}{ps:List DP}{un:List Nat}{St:Nat->List G->Af}{F0:Fr}{acc:List (BL G)}{γ:Nat->G}{pre t:List Nat}{s:Nat}{k:Fr->Prop}{ops:List Oper}
theorem Zw (j j':Nat){R:BL G}(h2:nth acc j'=some R)(h:∀r,R ((A9 ps j).2.2.map γ) r->CF ops F0 ps acc.reverse γ pre t λF=>k ((s,r)::F))(h1:FY ops s pre=some j:=by kernel_rfl)(h3:Ys (j'+j+1) acc.length=true:=by rfl):CF ops F0 ps acc.reverse γ pre (s::t) k:=Ack j h1 (Aco h2 h3) h
theorem Zf (h:∀r,r=F0.get s->CF ops F0 ps acc γ pre t λF=>k ((s,r)::F))(h1:FY ops s pre=none:=by kernel_rfl):CF ops F0 ps acc γ pre (s::t) k:=Acl h1 h
theorem Zp {i:Nat}{o:Oper}{rest:List Oper}{k:List (BL G)->Prop}(R:BL G)(h:FI ops F0 ps un St P nt i o acc.reverse R)(t:H4 ops F0 ps un St P nt (i+1) rest (R::acc).reverse k):H4 ops F0 ps un St P nt i (o::rest) acc.reverse k:=TI R h (by rw [<- List.reverse_cons];exact t)
theorem Ap [Inhabited G]{id:Nat}{Q:Exit->Fr->Af->Prop}{S0:Af}(ps:List DP)(un:List Nat)(St:Nat->List G->Af)(outs ws:List Nat)(hS0:St 0 []=S0)(hmix:P.follows .mixedOrders=true)
  (h:H4 ops F0 ps un St P nt 0 ops ([]:List (BL G)).reverse λacc=>∀γ:Nat->G,CF ops F0 ps acc γ (List.range ops.length).reverse outs λF=>Q .normal (F++(ws.map (λ s=>(s,none))++F0)) (St un.length ((List.range un.length).map γ)))
  (h1:KP ops ps un nt ws=true:=by kernel_rfl) (h2:Acy ops ps un=true:=by kernel_rfl):VW P nt (.region id ops.toArray true) Q F0 S0:=Acz ps un St outs ws hS0 hmix h1 h2 h
end
def Oy (q x:Nat):List Oper->Option (Nat×Int)
 | [⟨some t, .binOp .eql _ (.tmp x') (.const (.int .i64 k)) _,_,_,_,none⟩,⟨some q', .assign (.tmp t'),_,_,_,none⟩]=>if x'=x/\q'=q/\t'=t then some (t,k) else none
 | _=>none
def orC (q x:Nat):Code->Option (List (Nat×Int))
 | .region _ ops false=>(Oy q x ops.toList).map λp=> [p]
 | .seq (.region _ ops false) (.cond (.tmp q') .skip c)=>if q'=q then (Oy q x ops.toList).bind λp=>(orC q x c).map λl=>p::l else none
 | _=>none
def Bh (x:Int):List Int->Bool
 | []=>false
 | y::ys=>decide (x=y)||Bh x ys
def JL (F:Fr)(nt q x:Nat):List (Nat×Int)->Bool
 | []=>true
 | p::l=>(F.get p.1).isNone&& !Ys p.1 x&&Nat.ble (p.1+1) nt&&JL F nt q x l
def AeA (F0:Fr)(S:Af)(q:Nat)(b:Bool):Exit->Fr->Af->Prop:=λe F' S'=>e= .normal/\S'=S/\∀i v,Fr.get ((q,some (.bool b))::F0) i=some v->F'.get i=some v
theorem TA {q x:Nat}{l:List Oper}{t:Nat}{k:Int}(h:Oy q x l=some (t,k)):∃ty1 ty2 ty3 p1 a1 ty4 p2 a2,l= [⟨some t, .binOp .eql ty1 (.tmp x) (.const (.int .i64 k)) ty2,ty3,p1,a1,none⟩,⟨some q, .assign (.tmp t),ty4,p2,a2,none⟩]:=by
 unfold Oy at h;split at h
 .split at h
  .rename_i hc;obtain ⟨rfl,rfl,rfl⟩:=hc;injection h with h;injection h with h1 h2;subst h1 h2;exact ⟨_,_,_,_,_,_,_,_,rfl⟩
  cases h
 cases h
theorem ZH {F0 F:Fr}{q x:Nat}{a:Int}{id:Nat}{ops:Array Oper}{t:Nat}{k:Int}{Q:Exit->Fr->Af->Prop}(ho:Oy q x ops.toList=some (t,k))(hx:F.get x=some (.int a))(hq:Nat.ble (q+1) nt=true)(hf:∀i v,i≠q->F0.get i=some v->F.get i=some v)
  (h1:(F0.get t).isNone=true) (h2:Ys t x=false) (h3:Nat.ble (t+1) nt=true) (hqx:Ys q x=false)
  (hk:∀F',F'.get q=some (.bool (decide (a=k)))->F'.get x=some (.int a)->(∀i v,i≠q->F0.get i=some v->F'.get i=some v)->Q .normal F' S):VW P nt (.region id ops false) Q F S:=by
 obtain⟨ty1,ty2,ty3,p1,a1,ty4,p2,a2,hl⟩:=TA ho;have:ops=(ops.toList).toArray:=by simp
 rw [this,hl];refine Oz (KL rfl h3 (Vl hx rfl rfl (KL rfl hq (Rc (v:= .bool (a==k)) (by simp [Fr.ev,Fr.put,Fr.get]) (Q9 ?_)))));have hbq:(a==k)=decide (a=k):=by rw [Bool.eq_iff_iff];simp
 have hxt:Ys x t=false:=by rw [<- Bool.not_eq_true,Yu] at h2 ⊢;exact Ne.symm h2
 have hxq:Ys x q=false:=by rw [<- Bool.not_eq_true,Yu] at hqx ⊢;exact Ne.symm hqx
 refine hk _ (by simp [Fr.put,Fr.get,hbq]) (by simp [Fr.put,Fr.get,hxt,hxq,hx]) λi v hi hv=> ?_;have hit:i≠t:=λe=>by subst e;rw [hv] at h1;cases h1
 have e1:Ys i q=false:=by rw [<- Bool.not_eq_true,Yu];exact hi
 have e2:Ys i t=false:=by rw [<- Bool.not_eq_true,Yu];exact hit
 simp only [Fr.put,Fr.get,e1,e2,cond_false];exact hf i v hi hv
theorem ZI {F0:Fr}{q x:Nat}{a:Int}(hq:Nat.ble (q+1) nt=true)(hqx:Ys q x=false):∀(c:Code) (l:List (Nat×Int)) (F:Fr),orC q x c=some l->F.get x=some (.int a)->(∀i v,i≠q->F0.get i=some v->F.get i=some v)->JL F0 nt q x l=true->
  VW P nt c (AeA F0 S q (Bh a (l.map (·.2)))) F S
 | .region id ops false,l,F,h,hx,hf,hfr=>by
  obtain⟨⟨t,k⟩,ho,rfl⟩:=Option.map_eq_some_iff.1 (show (Oy q x ops.toList).map (λ p=> [p])=some l from h);simp only [JL,Bool.and_eq_true,Bool.not_eq_true'] at hfr;refine ZH ho hx hq hf hfr.1.1.1 hfr.1.1.2 hfr.1.2 hqx λF' h1 h2 h3=>⟨rfl,rfl,λi v hv=> ?_⟩;simp only [Fr.get] at hv
  by_cases hi:i=q
  .subst hi;simp only [Nat.beq_refl,cond_true] at hv;rw [h1, <- hv];simp [Bh]
  have e1:Ys i q=false:=by rw [<- Bool.not_eq_true,Yu];exact hi
  simp only [e1,cond_false] at hv;exact h3 i v hi hv
 | .seq (.region id ops false) (.cond (.tmp q') .skip c),l,F,h,hx,hf,hfr=>by
  simp only [orC] at h;split at h
  .rename_i hqq;subst hqq;obtain ⟨⟨t,k⟩,ho,h⟩:=Option.bind_eq_some_iff.1 h;obtain ⟨l',hl',rfl⟩:=Option.map_eq_some_iff.1 h;simp only [JL,Bool.and_eq_true,Bool.not_eq_true'] at hfr;refine TB (ZH ho hx hq hf hfr.1.1.1 hfr.1.1.2 hfr.1.2 hqx λF' h1 h2 h3=>ZT (Rl h1 (λ e=>Vk ⟨rfl,rfl,λi v hv=> ?_⟩) λe=> ?_))
   .simp only [Fr.get] at hv
    by_cases hi:i=q'
    .subst hi;simp only [Nat.beq_refl,cond_true] at hv;rw [h1, <- hv];simp [Bh,e]
    have e1:Ys i q'=false:=by rw [<- Bool.not_eq_true,Yu];exact hi
    simp only [e1,cond_false] at hv;exact h3 i v hi hv
   have:=ZI hq hqx c l' F' hl' h2 h3 hfr.2;have e2:Bh a (((t,k)::l').map (·.2))=Bh a (l'.map (·.2)):=by simp [Bh,e]
   rw [e2];exact this
  cases h
theorem Ms {q x:Nat}{a:Int}{c:Code}{Q:Exit->Fr->Af->Prop}(l:List (Nat×Int))(h:orC q x c=some l)(hx:F.get x=some (.int a))(hq:(Nat.ble (q+1) nt&& !Ys q x&&JL F nt q x l)=true)
  (hk:Q .normal ((q,some (.bool (Bh a (l.map (·.2)))))::F) S):VW P nt c Q F S:=by
 simp only [Bool.and_eq_true,Bool.not_eq_true'] at hq;intro m w ac QQ hf hw hK;refine ZI hq.1.1 hq.1.2 c l F h hx (λ i v _ h=>h) hq.2 m w ac QQ hf hw λe F' S' m' w' a' ⟨he,hS,hF⟩ hf' st=> ?_;subst he hS;exact hK _ _ _ m' w' a' hk ⟨hf'.defers,hf'.size,λi v hv=>hf'.get i v (hF i v hv)⟩ st
structure Vi (P:Program)(t n e sz:Nat)(zs:List V):Prop where
 all:∃i ie z,P.underlying t=some (.array n e)/\P.info? t=some i/\i.zero=some z/\P.info? e=some ie/\ie.size=sz/\z.cells.toList.map V.raw=zs
 leaf:zs.all V.leaf=true
theorem ZJ {t n e sz:Nat}{zs:List V}(h1:P.underlying t=some (.array n e))(h2:(P.info? t).bind (λ i=>i.zero.map λz=>z.cells.toList)=some cs)(h3:(P.info? e).map (·.size)=some sz)(h4:cs.map V.raw=zs)(h5:zs.all V.leaf=true):Vi P t n e sz zs:=by
 obtain⟨i,hi,h2⟩:=Option.bind_eq_some_iff.1 h2;obtain ⟨z,hz,rfl⟩:=Option.map_eq_some_iff.1 h2;obtain ⟨ie,hie,rfl⟩:=Option.map_eq_some_iff.1 h3;exact ⟨⟨i,ie,z,h1,hi,hz,hie,rfl,h4⟩,h5⟩
theorem Vj {p p':Nat->Option (Nat×Nat)}(h:∀i x,p i=some x->p' i=some x):∀(parts:List (Nat×Value)) (cells out:Array Value),Instr.fill p cells parts=some out->Instr.fill p' cells parts=some out
 | [],cells,out,k=>by simpa [Instr.fill] using k
 | (i,v)::parts,cells,out,k=>by
  simp only [Instr.fill] at k ⊢;split at k
  .cases k
  rename_i off size hp;rw [h i _ hp];split at k
  .cases k
  rename_i hc;simp only [hc];exact Vj h parts _ out k
def places (n sz:Nat):List (Nat×Nat):=(List.range n).map λi=>(i*sz,sz)
theorem Gh {t n e sz:Nat}{zs:List V}{parts:Array (Nat×Operand)}(is:List Nat)(xs:List Operand){vs ls:List V}(ht:Vi P t n e sz zs)(hp:parts.toList=is.zip xs)(hl:Ys is.length xs.length=true)(hv:evs F xs=some vs)(hfill:Rj (places n sz) zs (is.zip vs)=some ls)
  (hk:K (some (.agg ls)) S):VOp P nt ⟨d, .build t parts,ty,pos,af,gd⟩ F S K:=by
 refine AW _ (λ m w ac hf hw=> ?_) hk;obtain ⟨i,ie,z,h1,h2,h3,h4,h5,h6⟩:=ht.all;have hl:=Yaa hl;have hrep:=HA hf hv;have hvl:vs.length=xs.length:=by have:=hrep.length;rw [List.length_map] at this;omega
 have hraw:∀(us:List Value),RepL m (us.map V.raw) us:=λus=>G9
 have hus:(parts.map λ(x:Nat×Operand)=>(x.1,ac.eval x.2)).toList=is.zip (xs.map ac.eval):=by
  rw [Array.toList_map,hp,List.zip_map_right];rfl
 obtain⟨cells',g1,g2,g3⟩:=KO (us:=is.zip (xs.map ac.eval)) (cells:=z.cells) (parts:=is.zip vs) (by rw [List.map_fst_zip (by simp;omega),List.map_fst_zip (by omega)])
  (by rw [List.map_snd_zip (by omega),List.map_snd_zip (by simp;omega)];exact hrep) (by rw [<- h6];exact hraw _) ht.leaf hfill
 refine⟨.agg cells',?_,g3,cells',rfl,g2⟩
 have hb:P.built t (parts.map λ(x:Nat×Operand)=>(x.1,ac.eval x.2)).toList=some cells':=by
  unfold Program.built;simp only [h2,h1,h3,h4];rw [hus];refine Vj (λ j x hj=> ?_) _ _ _ g1;simp only [places,List.getElem?_map] at hj;obtain ⟨j',hj',hx⟩:=Option.map_eq_some_iff.1 hj;have hj2:=Yd.1 hj';obtain ⟨hlt,hj2⟩:=hj2;simp at hj2;subst hj2;rw [h5];exact congrArg some hx
 simp only [execOp,Sem.run_bind,run_build w t _ cells' hb,Result.andThen_ok];rfl
theorem ZK {f:FuncId}{args:Array Operand}{ats:Array TypeId}(xs:List Operand){vs:List V}(Sa Sb:Af){r:V}(ha:args.toList=xs)(hv:evs F xs=some vs)(hen:Enters P f)(hp:S.Perm (Sa++Sb))(hc:Cb P f vs Sa r)
  (hk:K (some r) S):VOp P nt ⟨d, .call ⟨.value (.func f),args,ats⟩,ty,pos,af,gd⟩ F S K:=
 VOp.drops (KM (K:=λr' S'=>r'=some r/\S'=Sa++Sb) xs Sa Sb ha hv hen hp hc λr' Sa' h=>⟨congrArg some h.1,by rw [h.2]⟩) λr' S' h=>⟨S,Drops.of_perm (by rw [h.2];exact hp.symm),by rw [h.1];exact hk⟩
theorem Fu {f:FuncId}{q:Tmp}{args:Array Operand}{ats:Array TypeId}(xs:List Operand){vs caps:List V}(Sa Sb:Af){r:V}(hq:F.get q=some (.clo (.func f) caps))(ha:args.toList=xs)(hv:evs F xs=some vs)(hen:Enters P f)(hp:S.Perm (Sa++Sb))(hc:Cb P f (vs++caps) Sa r)
  (hk:K (some r) S):VOp P nt ⟨d, .call ⟨.value (.tmp q),args,ats⟩,ty,pos,af,gd⟩ F S K:=
 VOp.drops (IG (K:=λr' S'=>r'=some r/\S'=Sa++Sb) xs Sa Sb hq ha hv hen hp hc λr' Sa' h=>⟨congrArg some h.1,by rw [h.2]⟩) λr' S' h=>⟨S,Drops.of_perm (by rw [h.2];exact hp.symm),by rw [h.1];exact hk⟩
theorem Drops.trans {S T U:Af}(h:Drops S T)(k:Drops T U):Drops S U:=by
 obtain⟨R,hR⟩:=h;obtain ⟨R',hR'⟩:=k;exact ⟨R++R',hR.trans (by rw [Yc];exact hR'.append_left R)⟩
theorem L0 {f:FuncId}{args:Array Operand}{ats:Array TypeId}(xs:List Operand){vs:List V}(Sb Sa:Af){R:V->Af->Prop}(ha:args.toList=xs)(hv:evs F xs=some vs)(hen:Enters P f)(hp:S.Perm (Sb++Sa))(hc:AH P f vs Sa R)
  (hk:∀r Sa',R r Sa'->K (some r) (Sb++Sa')):VOp P nt ⟨d, .call ⟨.value (.func f),args,ats⟩,ty,pos,af,gd⟩ F S K:=
 VOp.drops (KM (K:=λr S'=>∃r' Sa',r=some r'/\R r' Sa'/\S'=Sa'++Sb) xs Sa Sb ha hv hen (hp.trans List.perm_append_comm) hc λr Sa' h=>⟨r,Sa',rfl,h,rfl⟩)
  λr S' ⟨r',Sa',e,h,e'⟩=>⟨Sb++Sa',Drops.of_perm (by rw [e'];exact List.perm_append_comm),by rw [e];exact hk r' Sa' h⟩
theorem Dc {f:FuncId}{args:Array Operand}{ats:Array TypeId}(xs:List Operand){vs:List V}(Sa Sb:Af){R:V->Af->Prop}(ha:args.toList=xs)(hv:evs F xs=some vs)(hen:Enters P f)(hp:S.Perm (Sa++Sb))(hc:AH P f vs Sa R)
  (hk:∀r Sa',R r Sa'->∃T,Drops (Sa'++Sb) T/\K (some r) T):VOp P nt ⟨d, .call ⟨.value (.func f),args,ats⟩,ty,pos,af,gd⟩ F S K:=
 VOp.drops (KM (K:=λr S'=>∃r' Sa',r=some r'/\R r' Sa'/\S'=Sa'++Sb) xs Sa Sb ha hv hen hp hc λr Sa' h=>⟨r,Sa',rfl,h,rfl⟩)
  λr S' ⟨r',Sa',e,h,e'⟩=>by
   obtain⟨T,h1,h2⟩:=hk r' Sa' h;exact ⟨T,by rw [e'];exact h1,by rw [e];exact h2⟩
theorem Hw {f:FuncId}{q:Tmp}{args:Array Operand}{ats:Array TypeId}(xs:List Operand){vs caps:List V}(Sa Sb:Af){R:V->Af->Prop}(hq:F.get q=some (.clo (.func f) caps))(ha:args.toList=xs)(hv:evs F xs=some vs)(hen:Enters P f)(hp:S.Perm (Sa++Sb))(hc:AH P f (vs++caps) Sa R)
  (hk:∀r Sa',R r Sa'->∃T,Drops (Sa'++Sb) T/\K (some r) T):VOp P nt ⟨d, .call ⟨.value (.tmp q),args,ats⟩,ty,pos,af,gd⟩ F S K:=
 VOp.drops (IG (K:=λr S'=>∃r' Sa',r=some r'/\R r' Sa'/\S'=Sa'++Sb) xs Sa Sb hq ha hv hen hp hc λr Sa' h=>⟨r,Sa',rfl,h,rfl⟩)
  λr S' ⟨r',Sa',e,h,e'⟩=>by
   obtain⟨T,h1,h2⟩:=hk r' Sa' h;exact ⟨T,by rw [e'];exact h1,by rw [e];exact h2⟩
abbrev DH {G:Type}(A:Af)(i:Nat)(e:G->Own):Nat->List G->Af:=Ro A λx=>A.set i (e x)
theorem ZL {fn:Func}{R:V->Af->Prop}(hr:fn.results.toList= [])(hR:R (.tup []) S):ZN P nt fn R .normal F S:=⟨_,OC hr rfl .nil,hR⟩
theorem Cb.drops {f:FuncId}{args:List V}{S:Af}{r:V}(h:AH P f args S λr' S'=>r'=r/\Drops S' S):Cb P f args S r:=
 AB (by
  intro m w us ha hw;exact (h m w us ha hw).mono λe w' ⟨r',S',m',u,⟨h1,h2⟩,h3,h4,h5⟩=>⟨r',S',m',u,⟨S,h2,h1,rfl⟩,h3,h4,h5⟩)
end
theorem Ab {α:Type}(l:List α)(k:Nat)(h:(k:Int)<(l.length:Int)):∃x,l[k]? =some x:=⟨l[k]'(by omega),List.getElem?_eq_getElem _⟩
theorem Aq {α:Type}(f:α->V){l:List α}{k:Nat}{x:α}(h:l[k]? =some x):(l.map f)[k]? =some (f x):=by simp [h]
theorem AD {α:Type}{l:List α}{k:Nat}{x:α}(h:l[k]? =some x):l.take (k+1)=l.take k++ [x]:=by
 obtain⟨hk,rfl⟩:=Yd.1 h;exact List.take_succ_eq_append_getElem hk
theorem Fj {α:Type}{l:List α}{k:Nat}{x:α}(h:k<l.length):(l.set k x).take (k+1)=l.take k++ [x]:=by
 rw [AD (x:=x) (by rw [Yq,if_pos rfl,if_pos h]),List.take_set_of_le (Yv _)]
theorem Q8 {α:Type}{l:List α}{k:Nat}(h:¬(k:Int)<(l.length:Int)):l.take k=l:=List.take_of_length_le (by omega)
theorem Ag {α:Type}{l:List α}{k:Nat}{x:α}(h:l[k]? =some x):l.drop k=x::l.drop (k+1):=by
 obtain⟨hk,rfl⟩:=Yd.1 h;exact (List.drop_eq_getElem_cons hk)
def idxOf {α:Type}(p:α->Bool):List α->Int
 | []=> -1
 | x::t=>bif p x then 0 else (if idxOf p t<0 then -1 else idxOf p t+1)
theorem Gi {α:Type}(p:α->Bool):∀ {l:List α} {k:Nat} {x:α},l[k]? =some x->(l.take k).any p=false->p x=true->idxOf p l=k
 | y::l,0,x,h,_,hp=>by simp at h;subst h;simp [idxOf,hp]
 | y::l,k+1,x,h,ha,hp=>by
  simp at h ha;have:=Gi p h (by simpa using ha.2) hp;simp only [idxOf,ha.1,cond_false,this];rw [if_neg (by omega)];omega
theorem El {α:Type}(p:α->Bool):∀ {l:List α},l.any p=false->idxOf p l= -1
 | [],_=>rfl
 | y::l,h=>by
  simp at h;have:=El p (l:=l) (by simpa using h.2);simp [idxOf,h.1,this]
theorem H2 {α:Type}(p:α->Bool):∀(l:List α),decide (idxOf p l ≥ 0)=l.any p
 | []=>rfl
 | y::l=>by
  have ih:=H2 p l;rw [List.any_cons];unfold idxOf
  by_cases hy:p y=true
  .simp [hy]
  have hy':p y=false:=by simpa using hy
  rw [hy',cond_false,Bool.false_or, <- ih]
  by_cases h:idxOf p l<0
  .rw [if_pos h];simp;omega
  rw [if_neg h];simp;omega
theorem Ha {α:Type}{p:α->Bool}{l:List α}{k:Nat}{x:α}(h:l[k]? =some x)(ha:(l.take k).any p=false)(hp:p x=false):(l.take (k+1)).any p=false:=by
 rw [AD h,List.any_append,ha];simp [hp]
theorem GO {α:Type}(p:α->Bool):∀(l:List α),idxOf p l= -1/\l.any p=false\/∃k x,idxOf p l=(k:Nat)/\l[k]? =some x/\p x=true/\(l.take k).any p=false
 | []=> .inl ⟨rfl,rfl⟩
 | x::l=>by
  by_cases hx:p x=true
  .exact .inr ⟨0,x,by simp [idxOf,hx],by simp,hx,by simp⟩
  have hx':p x=false:=by simpa using hx
  rcases GO p l with ⟨h1,h2⟩ | ⟨k,y,h1,h2,h3,h4⟩
  .exact .inl ⟨by simp [idxOf,hx',h1],by simp [hx',h2]⟩
  refine .inr ⟨k+1,y,?_,by simpa using h2,h3,by simp [hx'];simpa using h4⟩;simp only [idxOf,hx',cond_false,h1];rw [if_neg (by omega)];omega
theorem Bn {l:List Int}{k:Nat}{x:Int}(h:l[k]? =some x):(l.map V.int)[k]? =some (V.int x):=by simp [h]
section
variable {P:Program}{nt:Nat}{F:Fr}{S:Af}{K:Option V->Af->Prop}{d:Option Tmp}{ty:TypeId}{pos:String}{af:Array Edge}{gd:Option (Nat×Bool)}
structure Two (P:Program)(t:TypeId)(f1 f2:Field):Prop where
  und:P.underlying t=some (.struct #[f1,f2])
  n1 : (f1.name != "_") = true
  n2 : (f2.name != "_") = true
  o1:f1.offset=0
  o2:f2.offset=1
  t1:P.underlying f1.type=some (.int .i64)
  t2:P.underlying f2.type=some (.int .i64)
  held:P.stoodInHeld t=false
end
end Go.VL
end
