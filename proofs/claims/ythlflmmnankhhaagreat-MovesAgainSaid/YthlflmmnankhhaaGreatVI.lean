import Derived.Test.YthlflmmnankhhaaGreatVH
set_option linter.all false
open List renaming all_eq_true → Ya, length_take → Yb, mem_of_mem_drop → Yc, mem_of_mem_take → Yd, getElem?_append_left → Ye, getElem?_append_right → Yf
namespace Go.VL
section
variable {P:Program}{nt:Nat}{F:Fr}{S:Af}{K:Option V->Af->Prop}
variable {d:Option Tmp}{ty:TypeId}{pos:String}{af:Array Edge}{gd:Option (Nat×Bool)}
theorem Uc (i:Nat){t e sz bytes:Nat}{z:Value}{s x:Operand}{g o len cap len2 cap2:Nat}{ls:List V}(ht:A8 P t e sz bytes z)(hs:F.ev s=some (.raw (.slice (some ⟨g,0,none⟩) len cap)))(hx:F.ev x=some (.raw (.slice (some ⟨g,o,none⟩) len2 cap2)))
  (hS:S[i]? =some (.cells g e ls)) (hge:len+len2<=cap) (ho:o+len2*sz<=ls.length) (hfl:len*sz+len2*sz<=ls.length)
  (hk:K (some (.raw (.slice (some ⟨g,0,none⟩) (len+len2) cap))) (S.set i (.cells g e (ls.take (len*sz)++((ls.drop o).take (len2*sz)++ls.drop (len*sz+len2*sz)))))):
  VOp P nt ⟨d, .call ⟨.builtin .append, #[s,x], #[t,t]⟩,ty,pos,af,gd⟩ F S K:=by
 intro m w ac KK QQ hf hw hK;have hsv:ac.eval s= .slice (some ⟨g,0,none⟩) len cap:=hf.ev hs;have hxv:ac.eval x= .slice (some ⟨g,o,none⟩) len2 cap2:=hf.ev hx;obtain ⟨ii,i1,i2,i3,i4⟩:=ht.info;obtain ⟨hleaf,⟨cs,hh,hrep⟩,hfree⟩:=Ch hw hS;have hcl:cs.toList.length=ls.length:=hrep.length;have hcsl:cs.size=ls.length:=by rw [<- hcl,Array.length_toList]
 obtain⟨news,hnd⟩:∃news,news=(cs.toList.drop o).take (len2*sz):=⟨_,rfl⟩;have hNl:news.length=len2*sz:=by rw [hnd,Yb,List.length_drop,hcl];omega
 have hsrc':Src P ii.size t (ac.eval x) len2 news w:=by
  rw [i2,hxv];refine Src.ofSlice w ht.und ⟨g,o,none⟩ len2 cap2 news hNl (λ j u hju=> ?_) λu hu=> ?_
  .rw [CD];refine F3 hh ?_;rw [hnd,List.getElem?_take] at hju;split at hju
   .rwa [List.getElem?_drop] at hju
   .cases hju
  rw [hnd] at hu;exact hrep.oneCells hleaf u (Yc (Yd hu))
 have happ:∀(w:World),(execOp ac.eval ⟨d, .call ⟨.builtin .append, #[s,x], #[t,t]⟩,ty,pos,af,gd⟩).run P w=((Builtin.append_ #[t,t] ty #[ac.eval s,ac.eval x]).run P w).andThen λv w'=> .ok (.value v) w':=λw=>by
  simp only [BigFrame.execOp_builtin,BigFrame.builtin_append,Sem.run_bind];simp
 have hrepN:RepL m ((ls.drop o).take (len2*sz)) news:=by rw [hnd];exact(hrep.drop _).take _
 have hfit:len*sz+news.length<=cs.size:=by rw [hNl,hcsl];exact hfl
 have hrun:=run_append_room_src (P:=P) w t t ty e ii ht.und i1 g 0 len cap (ac.eval x) len2 news hsrc' hge
  (λ j hj=>by simp [World.cell?,hh,i2];omega) (λ j hj=>by simp [World.frozen?,hh])
 rw [i2,Nat.zero_add] at hrun;unfold Oper.wp;rw [happ,hsv,hrun];obtain ⟨cs',hh',hs',hget⟩:=Fk g e news (len*sz) w cs hh hfit;obtain ⟨r1,r2,r3,r4⟩:=Fl g news (len*sz) w
 have hcs':cs'.toList=cs.toList.take (len*sz)++(news++cs.toList.drop (len*sz+news.length)):=by
  apply List.ext_getElem?;intro o;rw [hget o]
  by_cases h1:o<len*sz
  .rw [if_neg (by omega),Ye (by rw [Yb,Array.length_toList];omega),List.getElem?_take_of_lt h1]
  have hto:(cs.toList.take (len*sz)).length=len*sz:=by rw [Yb,Array.length_toList];omega
  rw [Yf (by omega),hto]
  by_cases h2:o<len*sz+news.length
  .rw [if_pos ⟨by omega,h2⟩,Ye (by omega)]
  rw [if_neg (by omega),Yf (by omega),List.getElem?_drop]
  congr 1
  omega
 have hrep2:RepL m (ls.take (len*sz)++((ls.drop o).take (len2*sz)++ls.drop (len*sz+len2*sz))) cs'.toList:=by
  rw [hcs',hNl];exact (hrep.take _).append (hrepN.append (hrep.drop _))
 have hall:(ls.take (len*sz)++((ls.drop o).take (len2*sz)++ls.drop (len*sz+len2*sz))).all V.leaf=true:=by
  rw [List.all_append,List.all_append,Bool.and_eq_true,Bool.and_eq_true];rw [Ya] at hleaf;refine ⟨?_,?_,?_⟩
  .rw [Ya];exact λx hx=>hleaf x (Yd hx)
  .rw [Ya];exact λx hx=>hleaf x (Yc (Yd hx))
  rw [Ya];exact λx hx=>hleaf x (Yc hx)
 refine hK _ _ m _ _ hk rfl ?_;exact A2.update hw hS rfl rfl r1 r2 r3 r4 (λ b hb=>Ek g news _ w b hb) (Sub.refl m) (λ b o v _ h=>h) (λ o v hv=>by rw [hfree o] at hv;cases hv) ⟨hall,⟨cs',hh',hrep2⟩,hfree⟩
theorem RD {m:Mem}{ac:Act}{w:World}{l h k:Int}{a b c:Operand}{len cap:Nat}(hf:D2 m nt F ac)(ha:F.ev a=some (.int l))(hb:F.ev b=some (.int h))(hc:F.ev c=some (.int k))(h0:0<=l)(h1:l<=h)(h2:h<=k)(h3:k<=cap):
  (Instr.sliceBounds true len cap (some (ac.eval a)) (some (ac.eval b)) (some (ac.eval c))).run P w= .ok (l.toNat,h.toNat,k.toNat) w:=by
 have key:∀(x:Operand) (n:Int) (y:Nat) (code:BoundsCode),F.ev x=some (.int n)->0<=n->n<=y->(Instr.sliceBound (ac.eval x) y code).run P w= .ok n.toNat w:=by
  intro x n y code hx hn0 hn1;have he:ac.eval x= .int .i64 n:=hf.ev hx;simp [he,Instr.sliceBound,asIntOf,hn0,hn1]
 simp [Instr.sliceBounds,key c k cap .slice3Acap hc (by omega) h3,key b h k.toNat .slice3B hb (by omega) (by omega),key a l h.toNat .slice3C ha h0 (by omega)]
theorem Qk {t e sz bytes:Nat}{z:Value}{len cap:Nat}{A:Option Addr}{x a b c:Operand}{l h k:Int}(ht:A8 P t e sz bytes z)(hx:F.ev x=some (.raw (.slice A len cap)))
  (ha:F.ev a=some (.int l)) (hb:F.ev b=some (.int h)) (hc:F.ev c=some (.int k)) (h0:0<=l) (h1:l<=h) (h2:h<=k) (h3:k<=cap)
  (hk:K (some (.raw (.slice (if k.toNat=l.toNat then A else A.map (·.add (l.toNat*sz))) (h.toNat - l.toNat) (k.toNat - l.toNat)))) S):
  VOp P nt ⟨d, .slice t x (some a) (some b) (some c),ty,pos,af,gd⟩ F S K:=by
 refine AW _ (λ m w ac hf hw=> ?_) hk;have hv:ac.eval x= .slice A len cap:=hf.ev hx;obtain ⟨i,i1,i2,i3,i4⟩:=ht.info;refine ⟨_,?_,rfl⟩;simp only [execOp,hv,Instr.sliceAt,Sem.run_bind,run_underlying ht.und w,Result.andThen_ok,Instr.slice,Option.map_some,RD hf ha hb hc h0 h1 h2 h3];simp [sizeOf,typeInfo,i1,i2]
theorem LU {t e sz bytes:Nat}{z:Value}{len cap g o:Nat}{x a b:Operand}{l h:Int}(ht:A8 P t e sz bytes z)(hx:F.ev x=some (.raw (.slice (some ⟨g,o,none⟩) len cap)))(ha:F.ev a=some (.int l))(hb:F.ev b=some (.int h))(h0:0<=l)(h1:l<=h)(h2:h<=cap)(h3:l<cap)
  (hk:K (some (.raw (.slice (some ⟨g,o+l.toNat*sz,none⟩) (h.toNat - l.toNat) (cap - l.toNat)))) S):VOp P nt ⟨d, .slice t x (some a) (some b) none,ty,pos,af,gd⟩ F S K:=by
 refine GM ht hx (Hb ha) (Hb hb) h0 h1 h2 ?_;have hne:¬cap=l.toNat:=by omega
 rw [if_neg hne];simp only [Option.map_some,CD];exact hk
theorem KY {t e sz bytes:Nat}{z:Value}{len cap g o:Nat}{x y:Operand}{l:Int}(ht:A8 P t e sz bytes z)(hx:F.ev x=some (.raw (.slice (some ⟨g,o,none⟩) len cap)))(hy:F.ev y=some (.int l))(h0:0<=l)(h1:l<=len)(h3:len<=cap)
  (hk:K (some (.raw (.slice (some ⟨g,if cap=l.toNat then o else o+l.toNat*sz,none⟩) (len - l.toNat) (cap - l.toNat)))) S):VOp P nt ⟨d, .slice t x (some y) none none,ty,pos,af,gd⟩ F S K:=by
 refine GM (h:=len) ht hx (Hb hy) rfl h0 h1 (by omega) ?_
 by_cases hc:cap=l.toNat
 .rw [if_pos hc] at hk ⊢;rw [Int.toNat_natCast];exact hk
 rw [if_neg hc] at hk ⊢;rw [Int.toNat_natCast];simp only [Option.map_some,CD];exact hk
theorem AH.frame {f:FuncId}{vs:List V}{Sa:Af}{R:V->Af->Prop}(Sb:Af)(hc:AH P f vs Sa R):AH P f vs (Sa++Sb) λr S'=>∃S1,R r S1/\S'=S1++Sb:=
 λm w us hu hw=>(hc m w us hu hw.left).mono λe w' ⟨r,S',m',u,hR,he,hr,st⟩=>⟨r,S'++Sb,m',u,⟨S',hR,rfl⟩,he,hr,A2.frame hw st⟩
theorem Cb.frame {f:FuncId}{vs:List V}{Sa:Af}{r:V}(Sb:Af)(hc:Cb P f vs Sa r):Cb P f vs (Sa++Sb) r:=
 (AH.frame Sb hc).mono λr' S' ⟨S1,⟨h1,h2⟩,h3⟩=>⟨h1,by rw [h3,h2]⟩
theorem AP.keep {f:FuncId}{vs:List V}{r:V}(S:Af)(hc:AP P f vs r):Cb P f vs S r:=by
 have h:=(AH.frame S (AH.forget (R:=λr' _=>r'=r) hc));rw [List.nil_append] at h;exact h.mono λr' S' ⟨S1,⟨h1,h2⟩,h3⟩=>⟨h1,by rw [h3,h2,List.nil_append]⟩
end
end Go.VL
