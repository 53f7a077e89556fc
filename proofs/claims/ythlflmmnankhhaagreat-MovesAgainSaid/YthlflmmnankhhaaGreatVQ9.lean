import Derived.Test.YthlflmmnankhhaaGreatVJ
import Derived.Shelf.Slices.SearchI
import Derived.Shelf.Slices.In.SortNone
import Derived.Maps.RangeRun
set_option linter.all false
open List renaming range → Ya, mem_of_getElem? → Yb, mem_range → Yc, flatMap_cons → Yd, append_assoc → Ye, mem_filter → Yf, mem_map → Yg, length_append → Yh, length_cons → Yi, all_eq_true → Yj, mem_or_eq_of_mem_set → Yk, getElem?_eq_some_iff → Yl
section
namespace Go.VL
structure A3 where
 g:Nat
 cap:Nat
 xs:List V
 rest:List V
def xl:Option A3->List V
 | none=> []
 | some r=>r.xs
def Av:Option A3->V
 | none=>V.nilSl
 | some r=> .raw (.slice (some ⟨r.g,0,none⟩) r.xs.length r.cap)
def Be (T:TypeId):Option A3->Af
 | none=> []
 | some r=> [.cells r.g T (r.xs.flatMap V.leaves++r.rest)]
def xOk (sz:Nat):Option A3->Prop
 | none=>True
 | some r=>r.xs.length<=r.cap/\r.cap<=maxLen/\(r.xs.flatMap V.leaves++r.rest).length=r.cap*sz
theorem Hj {sz:Nat}:∀ {xs:List V},(∀x∈xs,x.leaves.length=sz)->(xs.flatMap V.leaves).length=xs.length*sz
 | [],_=>by simp
 | x::xs,h=>by
  rw [Yd,Yh,h x (List.mem_cons_self ..),Hj λy hy=>h y (List.mem_cons_of_mem _ hy),Yi,Nat.succ_mul];omega
section
variable {P:Program}{nt:Nat}{F:Fr}{S:Af}{K:Option V->Af->Prop}
variable {d:Option Tmp}{ty:TypeId}{pos:String}{af:Array Edge}{gd:Option (Nat×Bool)}
theorem VOp.permL {o:Oper}{S':Af}(h:VOp P nt o F S' K)(hp:S.Perm S'):VOp P nt o F S K:=
 λm w a KK QQ hf hw hK=>h m w a KK QQ hf (hw.perm hp) λr S1 m1 w1 u k hr st=>hK r S1 m1 w1 u k hr (st.permL hp)
theorem Xc {t e sz bytes:Nat}{z:Value}{s x:Operand}{o:Option A3}{R:Af}{tx:Option Tok}{ys:List V}(ht:A8 P t e sz bytes z)(hz1:∀c∈z.cells.toList,c.oneCell'=true)(hs:F.ev s=some (Av o))(hx:F.ev x=some (.sl sz tx ys))
  (hp:S.Perm (Be e o++R)) (hok:xOk sz o) (hfl:∀v∈xl o,v.leaves.length=sz) (hne:o=none->ys≠ []) (hb:((xl o).length+ys.length)*bytes<=140737488355328) (hflat:∀y∈ys,y.flat=true)
  (hk:∀o',xl o'=xl o++ys->xOk sz o'->o'≠none->K (some (Av o')) (Be e o'++R)):
  VOp P nt ⟨d, .call ⟨.builtin .append, #[s,x], #[t,t]⟩,ty,pos,af,gd⟩ F S K:=by
 refine VOp.permL ?_ hp
 cases o with
 | none=>
  have hl:=List.length_pos_iff.2 (hne rfl);have hb:ys.length*bytes<=140737488355328:=by have h9:=hb;change (0+ys.length)*bytes<=_ at h9;rwa [Nat.zero_add] at h9
  refine Hv ht hz1 (A:=none) hs hx hl hb hflat λg cap rest h1 h2 h3=> ?_;exact hk (some ⟨g,cap,ys,rest⟩) rfl ⟨h1,h2,h3⟩ (by simp)
 | some r=>
  obtain⟨h1,h2,h3⟩:=hok;refine GN 0 ht hz1 hs hx rfl h3 h1 h2 hb hflat λg cap rest k1 k2 k3=> ?_;have hlen:(r.xs.flatMap V.leaves).length=r.xs.length*sz:=Hj hfl;have htk:(r.xs.flatMap V.leaves++r.rest).take (r.xs.length*sz)=r.xs.flatMap V.leaves:=by rw [<- hlen,List.take_left]
  have h4:=hk (some ⟨g,cap,r.xs++ys,rest⟩) rfl ⟨by rw [Yh];exact k1,k2,by
   rw [List.flatMap_append,Ye];rw [htk] at k3;exact k3⟩ (by simp)
  rw [htk]
  have e1:Be e (some ⟨g,cap,r.xs++ys,rest⟩)++R= .cells g e (r.xs.flatMap V.leaves++(ys.flatMap V.leaves++rest))::R:=by
   show(.cells g e ((r.xs++ys).flatMap V.leaves++rest))::R=_;rw [List.flatMap_append,Ye]
  rw [e1] at h4
  have e2:Av (some ⟨g,cap,r.xs++ys,rest⟩)= .raw (.slice (some ⟨g,0,none⟩) (r.xs.length+ys.length) cap):=by
   show V.raw (.slice (some ⟨g,0,none⟩) (r.xs++ys).length cap)=_;rw [Yh]
  rw [e2] at h4;exact h4
end
def xA:Option A3->Option Addr
 | none=>none
 | some r=>some ⟨r.g,0,none⟩
def Ua:Option A3->Nat
 | none=>0
 | some r=>r.cap
theorem IP (o:Option A3):Av o= .raw (.slice (xA o) (xl o).length (Ua o)):=by cases o <;> rfl
section
variable {P:Program}{nt:Nat}{F:Fr}{S:Af}{Q:Exit->Fr->Af->Prop}
end
section
variable {P:Program}
end
open Classical in
noncomputable def FK (sz:Nat)(xs:List V)(o:Option A3):Option A3:=if xl o=xs/\xOk sz o then o else some ⟨0,xs.length,xs,[]⟩
theorem Qj {sz:Nat}{xs:List V}(hfl:∀v∈xs,v.leaves.length=sz)(hl:xs.length<=maxLen)(o:Option A3):xl (FK sz xs o)=xs/\xOk sz (FK sz xs o):=by
 unfold FK;split
 .assumption
 .exact ⟨rfl,Nat.le_refl _,hl,by rw [List.append_nil];exact Hj hfl⟩
theorem IQ {sz:Nat}{xs:List V}{o:Option A3}(h1:xl o=xs)(h2:xOk sz o):FK sz xs o=o:=if_pos ⟨h1,h2⟩
theorem HS (l:List Own){C Y:Af}:(l++(C++Y)).Perm (C++(l++Y)):=by
 rw [<- Ye, <- Ye];exact List.perm_append_comm.append_right _
theorem FS (l:List Own){x:Own}{Y Y2:Af}(h:Y.Perm (x::Y2)):(l++Y).Perm (x::(l++Y2)):=(h.append_left l).trans List.perm_middle
section
variable {P:Program}{nt:Nat}{F:Fr}{S:Af}{K:Option V->Af->Prop}
variable {d:Option Tmp}{ty:TypeId}{pos:String}{af:Array Edge}{gd:Option (Nat×Bool)}
theorem Es {t e sz bytes:Nat}{z:Value}{s x:Operand}{o:Option A3}(R:Af)(T:Option A3->Af){tx:Option Tok}{ys:List V}(ht:A8 P t e sz bytes z)(hz1:∀c∈z.cells.toList,c.oneCell'=true)(hs:F.ev s=some (Av o))(hx:F.ev x=some (.sl sz tx ys))
  (hp:S.Perm (Be e o++R)) (hT:∀o',(Be e o'++R).Perm (T o')) (hok:xOk sz o) (hfl:∀v∈xl o,v.leaves.length=sz) (hne:o=none->ys≠ []) (hb:((xl o).length+ys.length)*bytes<=140737488355328) (hflat:∀y∈ys,y.flat=true)
  (hk:∀o',xl o'=xl o++ys->xOk sz o'->o'≠none->K (some (Av o')) (T o')):
  VOp P nt ⟨d, .call ⟨.builtin .append, #[s,x], #[t,t]⟩,ty,pos,af,gd⟩ F S K:=
 VOp.drops (Xc (K:=λr S'=>∃o',xl o'=xl o++ys/\xOk sz o'/\o'≠none/\r=some (Av o')/\S'=Be e o'++R) ht hz1 hs hx hp hok hfl hne hb hflat λo' h1 h2 h3=>⟨o',h1,h2,h3,rfl,rfl⟩)
  λr S' ⟨o',h1,h2,h3,e1,e2⟩=>⟨T o',by rw [e2];exact Drops.of_perm (hT o'),by rw [e1];exact hk o' h1 h2 h3⟩
end
section
variable {P:Program}{nt:Nat}{F:Fr}{S:Af}{Q:Exit->Fr->Af->Prop}
theorem RA:∀ {ls:List V},ls.all V.leaf=true->V.les ls ls
 | [],_=>trivial
 | x::ls,h=>by
  rw [List.all_cons,Bool.and_eq_true] at h;exact ⟨V.le.refl _,h.1,RA h.2⟩
theorem VB:∀ {ls:List V} {j:Nat} {v v':V},ls.all V.leaf=true->ls[j]? =some v->V.le v v'->v'.leaf=true->V.les ls (ls.set j v')
 | [],j,v,v',_,hj,_,_=>by simp at hj
 | x::ls,0,v,v',h,hj,hle,hl=>by
  rw [List.all_cons,Bool.and_eq_true] at h;have hj:x=v:=by simpa using hj
  subst hj;exact ⟨hle,hl,RA h.2⟩
 | x::ls,j+1,v,v',h,hj,hle,hl=>by
  rw [List.all_cons,Bool.and_eq_true] at h;exact ⟨V.le.refl _,h.1,VB h.2 (by simpa using hj) hle hl⟩
theorem B7 (i j:Nat){g:Nat}{T:TypeId}{ls:List V}{v v':V}{c:Code}(hS:S[i]? =some (.cells g T ls))(hj:ls[j]? =some v)(hle:V.le v v')(hl:v'.leaf=true)(h:VW P nt c Q F (S.set i (.cells g T (ls.set j v')))):VW P nt c Q F S:=by
 intro m w a QQ hf hw hK;obtain ⟨hall,_,_⟩:=Ch hw hS;exact BE i hS (VB hall hj hle hl) h m w a QQ hf hw hK
end
theorem F6 {A B:Af}(C:Af)(h:Drops A B):Drops (C++A) (C++B):=by
 induction C with
 | nil=>exact h
 | cons c C ih=>exact .keep ih
theorem MN {A B:Af}:∀(C:Af),Drops A B->Drops (C++A) B
 | [],h=>h
 | c::C,h=> .drop (MN C h)
theorem Xd {α:Type}{g:α->Af}{a b:List α}(h:a.Sublist b):Drops (b.flatMap g) (a.flatMap g):=by
 induction h with
 | slnil=>exact .refl _
 | cons x _ ih=>rw [Yd];exact MN _ ih
 | cons_cons x _ ih=>rw [Yd,Yd];exact F6 _ ih
theorem BW.conv {m:Mem}{sz b:Nat}:∀ {xs ys:List V} {off:Nat},xs.length=ys.length->(∀(p:Nat) (x y:V),xs[p]? =some x->ys[p]? =some y->∀u,Rep m x u->Rep m y u)->BW m sz b off xs->BW m sz b off ys
 | [],[],_,_,_,_=>trivial
 | [],y::ys,_,h,_,_=>by simp at h
 | x::xs,[],_,h,_,_=>by simp at h
 | x::xs,y::ys,off,h,hc,⟨⟨u,r,l,o,t⟩,k⟩=>⟨⟨u,hc 0 x y rfl rfl u r,l,o,t⟩,BW.conv (by simpa using h) (λ p x' y' hx hy=>hc (p+1) x' y' (by simpa using hx) (by simpa using hy)) k⟩
section
variable {P:Program}{nt:Nat}{F:Fr}{S:Af}{K:Option V->Af->Prop}
variable {d:Option Tmp}{ty:TypeId}{pos:String}{af:Array Edge}{gd:Option (Nat×Bool)}
end
section
variable {P:Program}{nt:Nat}{F:Fr}{S:Af}{Q:Exit->Fr->Af->Prop}
end
section
variable {P:Program}{nt:Nat}{F:Fr}{S:Af}{K:Option V->Af->Prop}
variable {d:Option Tmp}{ty:TypeId}{pos:String}{af:Array Edge}{gd:Option (Nat×Bool)}
end
section
variable {P:Program}{nt:Nat}{F:Fr}{S:Af}{Q:Exit->Fr->Af->Prop}
end
def AeX (es:List (Value×V))(bs:List Nat)(clock:Nat):Mem->Obj->Prop:=λm o=>∃ents,o= .map ents clock/\DE m es ents.toList/\ents.toList.map (·.born)=bs/\bs.Nodup/\∀b∈bs,b<clock
theorem Xe (es:List (Value×V))(bs:List Nat)(clock:Nat):∀m m' o,Sub m m'->AeX es bs clock m o->AeX es bs clock m' o:=λm m' o h ⟨ents,h1,h2,h3⟩=>⟨ents,h1,DE.mono h h2,h3⟩
def Agg (g since:Nat)(seen:Array Nat)(last:Nat):Mem->Obj->Prop:=λ_ o=>o= .mapIter (some g) since seen last
abbrev MO (g:Nat)(es:List (Value×V))(bs:List Nat)(clock:Nat):Own:= .obj g (AeX es bs clock) (Xe es bs clock)
abbrev H9 (r g since:Nat)(seen:Array Nat)(last:Nat):Own:= .obj r (Agg g since seen last) (λ _ _ _ _ h=>h)
theorem DE.len {m:Mem}:∀ {xs:List (Value×V)} {es:List MapEntry},DE m xs es->es.length=xs.length
 | [],es,h=>by rw [show es= [] from h];rfl
 | (k,v)::xs,es,⟨e,es',he,_,_,h⟩=>by rw [he,Yi,Yi,h.len]
theorem DE.get {m:Mem}:∀ {xs:List (Value×V)} {es:List MapEntry},DE m xs es->∀ {q:Nat} {e:MapEntry},es[q]? =some e->∃v,xs[q]? =some (e.key,v)/\Rep m v e.val
 | [],es,h,q,e,he=>by rw [show es= [] from h] at he;simp at he
 | (k,v)::xs,es,⟨e0,es',h1,h2,h3,h⟩,0,e,he=>by
  rw [h1] at he;have he:e0=e:=by simpa using he
  subst he;exact ⟨v,by rw [<- h2];rfl,h3⟩
 | (k,v)::xs,es,⟨e0,es',h1,h2,h3,h⟩,q+1,e,he=>by
  rw [h1] at he;exact h.get (q:=q) (by simpa using he)
section
variable {P:Program}{nt:Nat}{F:Fr}{S:Af}{K:Option V->Af->Prop}{Q:Exit->Fr->Af->Prop}{d:Option Tmp}{ty:TypeId}{pos:String}{af:Array Edge}{gd:Option (Nat×Bool)}
theorem AeY (i:Nat){e e':Own}{c:Code}(hS:S[i]? =some e)(hd:e'.dom=e.dom)(hi:∀m w,e.holds m w->e'.holds m w)(h:VW P nt c Q F (S.set i e')):VW P nt c Q F S:=by
 intro m w a QQ hf hw hK;have hdm:dom (S.set i e')=dom S:=JN hS hd
 have hw2:Cw m (S.set i e') w:=⟨hw.agree,by rw [hdm];exact hw.nodup,λx hx=>by
  rcases Yk hx with hx | rfl
  .exact hw.holds x hx
  exact hi m w (hw.holds e (Yb hS))⟩
 have hst:A2 m S w m (S.set i e') w:=⟨hw2,rfl,rfl,rfl,Nat.le_refl _,λ_ _ _=>rfl,Sub.refl m,λ_ _ _ h=> .inl h,λb hb=> .inl (by rw [<- hdm];exact hb)⟩;exact h m w a QQ hf hw2 (λ x F' S' m' w' a' hq hf' st=>hK x F' S' m' w' a' hq hf' (hst.trans st))
theorem AaD (i:Nat){g clock:Nat}{es:List (Value×V)}{bs:List Nat}{c:Code}(hS:S[i]? =some (MO g es bs clock))(h:VW P nt c Q F (S.set i (.map g es))):VW P nt c Q F S:=
 AeY (e':= .map g es) i hS rfl (λ m w hh=>by
  obtain⟨⟨o,h1,ents,h2,h3,h4,hn,hb⟩,h5⟩:=hh;exact ⟨⟨ents,clock,by rw [h1,h2],h3,(λ x hx=>hb _ (by rw [<- h4];exact Yg.2 ⟨x,hx,rfl⟩)),by rw [h4];exact hn⟩,h5⟩) h
theorem Xf (i:Nat){g clock:Nat}{es:List (Value×V)}{bs:List Nat}{c:Code}(hS:S[i]? =some (MO g es bs clock))(h:bs.length=es.length->bs.Nodup->(∀b∈bs,b<clock)->VW P nt c Q F S):VW P nt c Q F S:=by
 intro m w a QQ hf hw hK;obtain ⟨⟨o,h1,ents,h2,h3,h4,hn,hb⟩,h5⟩:=hw.holds _ (Yb hS);exact h (by rw [<- h4,List.length_map,h3.len]) hn hb m w a QQ hf hw hK
theorem Ac4 {t k e:TypeId}{x:Operand}{g:Nat}(i:Nat){es:List (Value×V)}(ht:P.underlying t=some (.map k e))(hx:F.ev x=some (.raw (.map (some g))))(hS:S[i]? =some (.map g es))
  (hk:∀r bs clock,K (some (.ptr r 0)) (H9 r g clock #[] clock::S.set i (MO g es bs clock))):VOp P nt ⟨d, .range t x,ty,pos,af,gd⟩ F S K:=by
 intro m w ac KK QQ hf hw hK;have hxv:ac.eval x= .map (some g):=hf.ev hx;obtain ⟨⟨ents,clock,hh,hr,hb1,hb2⟩,hn⟩:=hw.holds _ (Yb hS)
 have hrun:(execOp ac.eval ⟨d, .range t x,ty,pos,af,gd⟩).run P w= .ok (.value (.pointer (some ⟨w.heap.size,0,none⟩))) (w.alloc (.mapIter (some g) clock #[] clock)):=by
  simp [execOp,Instr.range,hxv,run_underlying ht w,getObj,Sem.run,hh]
 unfold Oper.wp;rw [hrun];have hdm:dom (S.set i (MO g es (ents.toList.map (·.born)) clock))=dom S:=JN hS rfl
 have hw2:Cw m (S.set i (MO g es (ents.toList.map (·.born)) clock)) w:=⟨hw.agree,by rw [hdm];exact hw.nodup,λy hy=>by
  rcases Yk hy with hy | rfl
  .exact hw.holds y hy
  exact⟨⟨_,hh,ents,rfl,hr,rfl,hb2,λb hb=>by
  obtain⟨y,hy,rfl⟩:=Yg.1 hb;exact hb1 y hy⟩,hn⟩⟩
 have hst:A2 m S w m (S.set i (MO g es (ents.toList.map (·.born)) clock)) w:=⟨hw2,rfl,rfl,rfl,Nat.le_refl _,λ_ _ _=>rfl,Sub.refl m,λ_ _ _ h=> .inl h,λb hb=> .inl (by rw [<- hdm];exact hb)⟩;refine hK _ _ m _ _ (hk w.heap.size (ents.toList.map (·.born)) clock) rfl (hst.trans (A2.alloc (e':=H9 w.heap.size g clock #[] clock) (o:= .mapIter (some g) clock #[] clock) hw2 rfl (Sub.refl m) (λ b o v _ h=>h) (λ k v h=>by rw [hw.fresh k] at h;cases h) ⟨⟨_,Eo _ _,rfl⟩,hw.fresh⟩))
theorem AeZ {t:Bool}{x:Operand}{r g since last clock:Nat}{seen:Array Nat}(i j:Nat){es:List (Value×V)}{bs:List Nat}(ht:t=false)(hx:F.ev x=some (.ptr r 0))(hSi:S[i]? =some (MO g es bs clock))(hSj:S[j]? =some (H9 r g since seen last))(hb:∀b∈bs,b<since)(hl:since<=last)
  (hk0:(∀b∈bs,b∈seen.toList)->K (some (.tup [.bool false])) S)
  (hk1:∀(q:Nat) (kv:Value) (vv:V) (b:Nat),es[q]? =some (kv,vv)->bs[q]? =some b->b∉seen.toList->K (some (.tup [.bool true, .raw kv,vv])) (S.set j (H9 r g since (seen.push b) clock))):
  VOp P nt ⟨d, .next x t,ty,pos,af,gd⟩ F S K:=by
 subst ht;intro m w ac KK QQ hf hw hK;have hxv:ac.eval x= .pointer (some ⟨r,0,none⟩):=hf.ev hx;obtain ⟨⟨o,hh,ents,rfl,hr,hbs,_⟩,hn⟩:=hw.holds _ (Yb hSi);obtain ⟨⟨o2,hh2,ho2⟩,hn2⟩:=hw.holds _ (Yb hSj);have ho2:o2= .mapIter (some g) since seen last:=ho2;subst ho2;have hbm:∀y∈ents.toList,y.born∈bs:=λy hy=>by rw [<- hbs];exact Yg.2 ⟨y,hy,rfl⟩
 have hexec:execOp ac.eval ⟨d, .next x false,ty,pos,af,gd⟩=(do let v <- Instr.next (.pointer (some ⟨r,0,none⟩)) false ty;pure (.value v)):=by
  simp [execOp,hxv]
 unfold Oper.wp;rw [hexec];have hrl:r<w.heap.size:=(Array.getElem?_eq_some_iff.1 hh2).1;rcases run_next_at (P:=P) w ty r g since last seen ents clock hh2 hh (λ y hy=>hb _ (hbm y hy)) hl with ⟨h0,hrun⟩ | ⟨e,he,w1,hw1,hrun⟩
 .rw [Sem.run_bind,hrun];refine hK _ _ m _ _ (hk0 λb hbb=> ?_) ⟨_,rfl,_,_,rfl,rfl,rfl⟩ (A2.refl hw);rw [<- hbs] at hbb;obtain ⟨y,hy,rfl⟩:=Yg.1 hbb;apply Classical.byContradiction;intro hns
  have:y∈(Go.leftOf ents seen).toList:=by
   unfold Go.leftOf;simp only [Array.toList_filter,Yf];exact ⟨hy,by simpa using hns⟩
  have h9:(Go.leftOf ents seen).toList.length=0:=by simpa using h0
  rw [List.length_eq_zero_iff.1 h9] at this
  cases this
 rw [Sem.run_bind,hrun];unfold Go.leftOf at he;simp only [Array.toList_filter,Yf] at he;obtain ⟨he1,he2⟩:=he;obtain ⟨q,hq⟩:=List.getElem?_of_mem he1;obtain ⟨vv,hv1,hv2⟩:=hr.get hq;have hbq:bs[q]? =some e.born:=by rw [<- hbs,List.getElem?_map,hq];rfl
 have hw1h:w1.heap=w.heap/\w1.os=w.os/\w1.tape=w.tape/\w1.output=w.output:=by rcases hw1 with rfl | rfl <;> exact⟨rfl,rfl,rfl,rfl⟩
 obtain⟨a1,a2,a3,a4⟩:=hw1h;refine hK _ _ m _ _ (hk1 q e.key vv e.born hv1 hbq (by simpa using he2)) ⟨_,rfl,_,_,rfl,rfl,_,_,rfl,rfl,_,_,rfl,hv2,rfl⟩ (A2.update (e':=H9 r g since (seen.push e.born) clock) hw hSj rfl rfl a2 a3 a4 ?_ ?_ (Sub.refl m) (λ b o v _ h=>h) (λ o v h=>by rw [hn2 o] at h;cases h) ⟨⟨.mapIter (some g) since (seen.push e.born) clock,?_,rfl⟩,hn2⟩)
 .show (w1.heap.setIfInBounds r _).size=w.heap.size;rw [Array.size_setIfInBounds,a1]
 .intro b hbn;show (w1.heap.setIfInBounds r _)[b]? =w.heap[b]?;rw [Array.getElem?_setIfInBounds_ne (Ne.symm hbn),a1]
 show(w1.heap.setIfInBounds r _)[r]? =_;rw [a1];simp [hrl]
theorem Ac5 {t:Bool}{x:Operand}{r g since last clock:Nat}{seen:Array Nat}(i j:Nat){es:List (Value×V)}{bs:List Nat}(ht:t=false)(hx:F.ev x=some (.ptr r 0))(hSi:S[i]? =some (MO g es bs clock))(hSj:S[j]? =some (H9 r g since seen last))(hb:∀b∈bs,b<since)(hl:since<=last)
  (hk:∀(fl:Bool) (rest:List V) (seen':Array Nat) (last':Nat),(fl=false/\(∀b∈bs,b∈seen.toList)/\seen'=seen/\last'=last\/fl=true/\∃(q:Nat) (kv:Value) (vv:V) (b:Nat),es[q]? =some (kv,vv)/\bs[q]? =some b/\b∉seen.toList/\seen'=seen.push b/\last'=clock)->K (some (.tup (.bool fl::rest))) (S.set j (H9 r g since seen' last'))):
  VOp P nt ⟨d, .next x t,ty,pos,af,gd⟩ F S K:=by
 refine AeZ i j ht hx hSi hSj hb hl (λ h0=> ?_) (λ q kv vv b h1 h2 h3=>hk true [.raw kv,vv] _ _ (.inr ⟨rfl,q,kv,vv,b,h1,h2,h3,rfl,rfl⟩));have h9:=hk false [] seen last (.inl ⟨rfl,h0,rfl,rfl⟩)
 have:S.set j (H9 r g since seen last)=S:=by
  apply List.ext_getElem?;intro q;rw [List.getElem?_set];split
  .rename_i e;subst e;rw [if_pos (Yl.1 hSj).1,hSj]
  rfl
 rwa [this] at h9
theorem Ac6 {x:Operand}{r g since clock:Nat}{seen:Array Nat}(i j q:Nat){es:List (Value×V)}{bs:List Nat}{kv:Value}{vv:V}{b:Nat}(hx:F.ev x=some (.ptr r 0))(hSi:S[i]? =some (MO g es bs clock))(hSj:S[j]? =some (H9 r g since (seen.push b) clock))(hq:es[q]? =some (kv,vv))(hbq:bs[q]? =some b)
  (hk:K (some (.tup [.raw kv,vv])) S):VOp P nt ⟨d, .entry x,ty,pos,af,gd⟩ F S K:=by
 refine AW _ (λ m w ac hf hw=> ?_) hk;have hxv:ac.eval x= .pointer (some ⟨r,0,none⟩):=hf.ev hx;obtain ⟨⟨o,hh,ents,rfl,hr,hbs,hn,_⟩,hn1⟩:=hw.holds _ (Yb hSi);obtain ⟨⟨o2,hh2,ho2⟩,hn2⟩:=hw.holds _ (Yb hSj);have ho2:o2= .mapIter (some g) since (seen.push b) clock:=ho2;subst ho2
 obtain⟨e,he⟩:∃e,ents.toList[q]? =some e:=by
  have:=(Yl.1 hq).1;exact ⟨_,List.getElem?_eq_getElem (by rw [hr.len];exact this)⟩
 obtain⟨v2,hv1,hv2⟩:=hr.get he;rw [hq] at hv1;injection hv1 with hv1;injection hv1 with hv3 hv4;subst hv4
 have hbe:e.born=b:=by
  rw [<- hbs,List.getElem?_map,he] at hbq;injection hbq
 subst hbe;refine ⟨.tuple #[e.key,e.val],?_,⟨_,rfl,_,_,rfl,hv3.symm ▸ rfl,_,_,rfl,hv2,rfl⟩⟩;have hrun:=run_entry_at (P:=P) w r g since seen ents clock e hh2 hh (Yb he) (by rw [hbs];exact hn);simp only [execOp,hxv,Sem.run_bind,hrun,Result.andThen_ok,Sem.run_pure]
end
section
variable {G:Type}{P:Program}{nt:Nat}{ops:List Oper}{F0:Fr}{S0:Af}{ps:List DP}{un:List Nat}
def EN (n:Nat)(pc:Nat->G->Af)(base:Af)(fin:List G->Af):List Nat->(Nat->G)->Af:=λdl γ=>
 bif has dl n&&(Ya n).all (has dl ·) then fin ((Ya n).map γ++ [γ n]) else dl.flatMap (λ p=>pc p (γ p))++base
theorem MP {α β:Type}{l:List α}{f g:α->List β}(h:∀x∈l,f x=g x):l.flatMap f=l.flatMap g:=by
 induction l with
 | nil=>rfl
 | cons x l ih=>rw [Yd,Yd,h x (List.mem_cons_self ..),ih λy hy=>h y (List.mem_cons_of_mem _ hy)]
theorem Xg (n:Nat)(pc:Nat->G->Af)(base:Af)(fin:List G->Af)(N:Nat)(d:Nat->Bool)(γ γ':Nat->G)(h:∀p,d p=true->γ p=γ' p):EN n pc base fin ((Ya N).filter d) γ=EN n pc base fin ((Ya N).filter d) γ':=by
 have hm:∀p∈(Ya N).filter d,γ p=γ' p:=λp hp=>h p (Yf.1 hp).2;unfold EN
 cases hc:(has ((Ya N).filter d) n&&(Ya n).all (has ((Ya N).filter d) ·)) with
 | true=>
  rw [cond_true,cond_true];rw [Bool.and_eq_true,Yj] at hc;have h1:(Ya n).map γ=(Ya n).map γ':=List.map_congr_left λp hp=>hm p (Bi.1 (hc.2 p hp));rw [h1,hm n (Bi.1 hc.1)]
 | false=>
  rw [cond_false,cond_false]
  congr 1
  exact MP λp hp=>by rw [hm p hp]
variable {i:Nat}{o:Oper}{acc:List (BL G)}{R:BL G}
theorem Ia {n q:Nat}{pc:Nat->G->Af}{base:Af}{fin:List G->Af}(hu:H3 un i 0=some q)(hs:(IR ps un i).all (λ dl=> !has dl q&& !has dl n)=true)(hq:(Nat.blt q un.length&&Nat.blt q n)=true)
  (h:∀(S:Af) (γ:Nat->G),CF ops F0 ps acc γ (A9 ps i).1 (A9 ps i).2.1 λF=>GJ ops P nt o F S λr S'=>∃x,R ((A9 ps i).2.2.map (upd γ q x)) r/\S'=pc q x++S):EO ops F0 ps un (EN n pc base fin) P nt i o acc R:=by
 unfold EO;rw [hu];refine Ql _ λdl hdl γ=>(h _ γ).mono λF hv=>hv.mono λr S' ⟨x,hx,e⟩=>⟨x,hx,Drops.of_perm ?_⟩;subst e;have hk:=Yj.1 hs dl hdl;rw [Bool.and_eq_true,Bool.not_eq_true',Bool.not_eq_true', <- Bool.not_eq_true, <- Bool.not_eq_true,Bi,Bi] at hk;rw [Bool.and_eq_true,Nat.blt_eq,Nat.blt_eq] at hq;have hsub:=(Yf.1 hdl).1;have hn1:has dl n=false:=by rw [<- Bool.not_eq_true,Bi];exact hk.2
 have hmem:∀p,p∈Qm un.length q dl↔p∈q::dl:=λp=>by
  unfold Qm;rw [Yf,Bool.or_eq_true,Bi,Nat.beq_eq,List.mem_cons,Yc];constructor
  .rintro ⟨_,h1 | h1⟩
   .exact .inr h1
   exact .inl h1
  rintro(rfl | h1)
  .exact ⟨hq.1, .inr rfl⟩
  exact⟨Ac7 hsub h1, .inl h1⟩
 have hn2:has (Qm un.length q dl) n=false:=by
  rw [<- Bool.not_eq_true,Bi,hmem,List.mem_cons];rintro (h1 | h1)
  .omega
  exact hk.2 h1
 unfold EN;rw [hn1,hn2,Bool.false_and,Bool.false_and,cond_false,cond_false];have hnd:(Qm un.length q dl).Nodup:=List.Pairwise.filter _ List.nodup_range
 have hp:(q::dl).Perm (Qm un.length q dl):=by
  rw [List.perm_ext_iff_of_nodup (List.nodup_cons.2 ⟨hk.1,Ud hsub⟩) hnd];exact λp=>(hmem p).symm
 have h2:=(hp.flatMap_right λp=>pc p (upd γ q x p)).append_right base;rw [Yd] at h2
 have h3:dl.flatMap (λ p=>pc p (upd γ q x p))=dl.flatMap λp=>pc p (γ p):=MP λp hpm=>by
  have hb:Nat.beq p q=false:=by
   rw [<- Bool.not_eq_true,Nat.beq_eq];rintro rfl;exact hk.1 hpm
  simp [upd,hb]
 have h4:upd γ q x q=x:=by simp [upd]
 rw [h3,h4,Ye] at h2;exact h2
theorem RB {n:Nat}{pc:Nat->G->Af}{base:Af}{fin:List G->Af}(hu:H3 un i 0=some n)(hs:IR ps un i= [Ya n])(hn:Nat.beq (n+1) un.length=true)
  (h:∀γ:Nat->G,CF ops F0 ps acc γ (A9 ps i).1 (A9 ps i).2.1 λF=>GJ ops P nt o F ((Ya n).flatMap (λ p=>pc p (γ p))++base) λr S'=>∃x,R ((A9 ps i).2.2.map (upd γ n x)) r/\S'=fin ((Ya n).map γ++ [x])):EO ops F0 ps un (EN n pc base fin) P nt i o acc R:=by
 unfold EO;rw [hu,hs];have hn:=Nat.eq_of_beq_eq_true hn;refine ⟨λ γ=> ?_,trivial⟩
 have e1:EN n pc base fin (Ya n) γ=(Ya n).flatMap (λ p=>pc p (γ p))++base:=by
  unfold EN;have:has (Ya n) n=false:=by rw [<- Bool.not_eq_true,Bi,Yc];omega
  rw [this,Bool.false_and,cond_false]
 refine(h γ).mono λF hv=> ?_;rw [e1];refine hv.mono λr S' ⟨x,hx,e⟩=>⟨x,hx,Drops.of_perm ?_⟩;subst e
 have e2:Qm un.length n (Ya n)=Ya (n+1):=by
  unfold Qm;rw [<- hn,List.filter_eq_self];intro p hp;have:=Yc.1 hp;rw [Bool.or_eq_true,Bi,Yc,Nat.beq_eq];omega
 have e3:EN n pc base fin (Ya (n+1)) (upd γ n x)=fin ((Ya n).map γ++ [x]):=by
  unfold EN;have h1:has (Ya (n+1)) n=true:=by rw [Bi,Yc];omega
  have h2:(Ya n).all (has (Ya (n+1)) ·)=true:=by
   rw [Yj];intro p hp;have:=Yc.1 hp;rw [Bi,Yc];omega
  have h4:upd γ n x n=x:=by simp [upd]
  rw [h1,h2,Bool.and_true,cond_true,h4,MH γ n x _ (λ j hj=>Yc.1 hj)]
 rw [e2,e3]
theorem OP [Inhabited G]{id:Nat}{Q:Exit->Fr->Af->Prop}(ps:List DP)(un:List Nat)(n:Nat)(pc:Nat->G->Af)(fin:List G->Af)(outs ws:List Nat)(hmix:P.follows .mixedOrders=true)
  (h:MT ops F0 ps un (EN n pc S0 fin) P nt 0 ops ([]:List (BL G)).reverse λacc=>∀γ:Nat->G,CF ops F0 ps acc γ (Ya ops.length).reverse outs λF=>Q .normal (F++(ws.map (λ s=>(s,none))++F0)) (EN n pc S0 fin (Ya un.length) γ))
  (h1:KP ops ps un nt ws=true:=by kernel_rfl) (h2:VC ops ps un=true:=by kernel_rfl):VW P nt (.region id ops.toArray true) Q F0 S0:=AaG ps un (EN n pc S0 fin) outs ws (by simp [EN,has]) (Xg n pc S0 fin un.length) hmix h1 h2 h
def AaE (f:G->G->G->V):BL G:=λγs r=>∃x y z,γs= [x,y,z]/\r=some (f x y z)
theorem Ae0 {C:Prop}{r:Option V}{f:G->G->G->V}{a b c:G}(h:∃x y z,[a,b,c]= [x,y,z]/\r=some (f x y z))(k:r=some (f a b c)->C):C:=by
 obtain⟨x,y,z,hx,h⟩:=h;injection hx with h1 hx;injection hx with h2 hx;injection hx with h3 hx;subst h1 h2 h3;exact k h
end
end Go.VL
end
