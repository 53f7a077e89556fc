import Derived.Test.YthlflmmnankhhaaGreatVY2
set_option linter.all false
open List renaming mem_or_eq_of_mem_set → Ya
namespace Go.VL
section
variable {P:Program}{nt:Nat}{F:Fr}{S:Af}{Q:Exit->Fr->Af->Prop}
theorem E6 (i k j:Nat){g n cap sz gc:Nat}{T Tc:TypeId}{ls rest lc:List V}(xs:List V){c:Code}(hS:S[i]? =some (.cells g T ls))(hC:(S.eraseIdx i)[k]? =some (.cells gc Tc lc))(hj:lc[j]? =some (.raw (.slice (some ⟨g,0,none⟩) n cap)))
  (hls:ls=xs.flatMap V.leaves++rest) (hn:xs.length=n) (hcap:n<=cap) (hm:cap<=maxLen)
  (hx:∀x∈xs,x.fits sz=true/\((∃ls,x= .agg ls)\/x.leaf=true)) (h:VW P nt c Q F ((S.eraseIdx i).set k (.cells gc Tc (lc.set j (.sl sz none xs))))):VW P nt c Q F S:=by
 intro m w a QQ hf hw hK;obtain ⟨hall,⟨cs,hh,hr⟩,hnone⟩:=Ch hw hS;have hw2:=hw.perm (AX hS)
 have hsub:Sub m (m.frozen g cs.toList):=λb o v hv=>by
  unfold Mem.frozen
  by_cases hb:b=g
  .subst hb;rw [hnone o] at hv;cases hv
  rw [if_neg hb];exact hv
 have hst:A2 m S w (m.frozen g cs.toList) (S.eraseIdx i) w:=by
  have hnd:=hw2.nodup;have hdom:dom (Own.cells g T ls::S.eraseIdx i)=g::dom (S.eraseIdx i):=rfl;rw [hdom] at hnd;have hgS:g∈dom S:=List.mem_filterMap.2 ⟨_,List.mem_of_getElem? hS,rfl⟩;refine ⟨⟨λ b o v hv=> ?_,(List.nodup_cons.1 hnd).2,λe he=> ?_⟩,rfl,rfl,rfl,Nat.le_refl _,λ_ _ _=>rfl,hsub,λb o v hv=> ?_,λb hb=> .inl ?_⟩
  .unfold Mem.frozen at hv
   by_cases hb:b=g
   .subst hb;rw [if_pos rfl] at hv;exact F3 hh hv
   rw [if_neg hb] at hv;exact hw.agree b o v hv
  .refine Own.holds_kept (hw2.holds e (List.mem_cons_of_mem _ he)) hsub (λ _ _=>rfl) λg' hg' o v hv=> ?_;have hne:g'≠g:=λh=>(List.nodup_cons.1 hnd).1 (by rw [<- h];exact List.mem_filterMap.2 ⟨e,he,hg'⟩);unfold Mem.frozen at hv
   rwa [if_neg hne] at hv
  .unfold Mem.frozen at hv
   by_cases hb:b=g
   .exact .inr (.inl (hb ▸ hgS))
   rw [if_neg hb] at hv;exact .inl hv
  have:b∈dom (Own.cells g T ls::S.eraseIdx i):=List.mem_cons_of_mem _ hb;exact (Gj (AX hS)).mem_iff.2 this
 have hrep:Rep (m.frozen g cs.toList) (.sl sz none xs) (.slice (some ⟨g,0,none⟩) n cap):=by
  rw [hls] at hr;have h1:=hr.take (xs.flatMap V.leaves).length;rw [List.take_left' rfl] at h1;have hF:=(EL h1 hx).mono hsub;refine ⟨_,cap,by rw [hn],by rw [hn];exact hcap,hm,trivial, .inr ⟨g,0,rfl,hF.els λj u hu=> ?_⟩⟩;unfold Mem.frozen;rw [if_pos rfl,Nat.zero_add];rw [List.getElem?_take] at hu;split at hu
  .exact hu
  cases hu
 have hd:dom ((S.eraseIdx i).set k (.cells gc Tc (lc.set j (.sl sz none xs))))=dom (S.eraseIdx i):=JN hC rfl
 have hst2:A2 m S w (m.frozen g cs.toList) ((S.eraseIdx i).set k (.cells gc Tc (lc.set j (.sl sz none xs)))) w:=by
  refine⟨⟨hst.rel.agree,by rw [hd];exact hst.rel.nodup,λe he=> ?_⟩,rfl,rfl,rfl,Nat.le_refl _,λ_ _ _=>rfl,hsub,hst.only,λb hb=>hst.domn b (by rw [<- hd];exact hb)⟩;rcases Ya he with he | rfl
  .exact hst.rel.holds e he
  obtain⟨hal,⟨cc,hh2,hr2⟩,hn2⟩:=Ch hst.rel hC;refine ⟨?_,⟨cc,hh2,?_⟩,hn2⟩
  .rw [List.all_eq_true] at hal ⊢;intro y hy;rcases Ya hy with hy | rfl
   .exact hal y hy
   rfl
  obtain⟨u,hu,hu2⟩:=hr2.get hj;have hu2:u= .slice (some ⟨g,0,none⟩) n cap:=hu2;subst hu2;have h3:=hr2.set j hrep
  have:cc.toList.set j (.slice (some ⟨g,0,none⟩) n cap)=cc.toList:=by
   obtain⟨hl,he⟩:=List.getElem?_eq_some_iff.1 hu;rw [<- he];exact List.set_getElem_self ..
  rwa [this] at h3
 refine h _ w a QQ ⟨hf.defers,hf.size,λj v hv=>Rep.mono hsub _ _ (hf.get j v hv)⟩ hst2.rel λe F' S' m' w' a' k hf' st=>hK e F' S' m' w' a' k hf' (hst2.trans st)
end
end Go.VL
