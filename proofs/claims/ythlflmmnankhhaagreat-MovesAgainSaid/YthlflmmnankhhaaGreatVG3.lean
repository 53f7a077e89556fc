import Derived.Test.YthlflmmnankhhaaGreatVG
import Derived.Test.YthlflmmnankhhaaGreatVT
import Derived.Test.YthlflmmnankhhaaGreatSY
set_option linter.all false
namespace Go.Proofs.YthlflmmnankhhaaGreat.VG3
open Go.VL Go.SM Go.Proofs.YthlflmmnankhhaaGreat
section
variable {H:Type}{enc:TypeId×Value->H}{W:World}{spare:Nat->Bool}{held:Bool}{B:Nat}
theorem EB {P:Program}{t fuel:Nat}{cs:List Value}{x:DataW H×List MemPlace}{fs:Array Field}(ht:P.underlying t=some (.struct fs))(h:DataW.trod enc P W 0 spare held fuel t cs=some x)(hw:(x.1.weights P t).all (· <=B)=true):
  ∃n,fuel=n+1/\cs.length=P.cellsOf t/\∀(i:Nat) ft off,(fs[i]?).map (λ f=>(f.type,f.offset))=some (ft,off)->∃y,DataW.trod enc P W 0 spare held n ft ((cs.drop off).take (P.cellsOf ft))=some y/\(y.1.weights P ft).all (· <=B)=true:=by
 obtain⟨xs,n,hn,rfl,hl,hxl,hf⟩:=DataW.trod_struct ht h;refine ⟨n,hn,hl,λi ft off hi0=> ?_⟩;obtain ⟨f,hi,he⟩:=Option.map_eq_some_iff.1 hi0;injection he with he1 he2;subst he1;subst he2;have hlt:=(Array.getElem?_eq_some_iff.1 hi).1;have h1:xs[i]? =some (xs[i]'(by omega)):=List.getElem?_eq_getElem _;refine ⟨_,(hf i f hi).trans h1,?_⟩;simp only [DataW.weights,ht] at hw;refine KI hw i f.type _ ?_ ?_
 .rw [List.getElem?_map];have:fs.toList[i]? =some f:=by simpa using hi
  rw [this];rfl
 rw [List.getElem?_map,h1];rfl
theorem ck:Tryz.prog.cellsOf 3=1/\Tryz.prog.cellsOf 32=1/\Tryz.prog.cellsOf 35=1/\Tryz.prog.cellsOf 36=1/\Tryz.prog.cellsOf 29=1/\Tryz.prog.cellsOf 22=1:=⟨by kernel_rfl,by kernel_rfl,by kernel_rfl,by kernel_rfl,by kernel_rfl,by kernel_rfl⟩
theorem AfY:Tryz.prog.cellsOf 42=4:=by kernel_rfl
theorem Aee:Tryz.prog.cellsOf 64=2:=by kernel_rfl
theorem AfZ:Tryz.prog.cellsOf 38=5:=by kernel_rfl
theorem Z2:Tryz.prog.cellsOf 40=7:=by kernel_rfl
theorem Aef:Tryz.prog.cellsOf 31=2:=by kernel_rfl
theorem Af0:Tryz.prog.cellsOf 24=2:=by kernel_rfl
theorem AgE:Tryz.prog.bytesOf 42=48:=by kernel_rfl
theorem G3 {n:Nat}{cs:List Value}{x:DataW H×List MemPlace}(h:DataW.trod enc Tryz.prog W 0 spare held n 3 cs=some x):∃k,cs= [.int .i64 k]:=by
 obtain⟨k,e,_⟩:=DataW.trod_int Tryz.underlying3 h;exact ⟨k,e⟩
theorem IJ {n:Nat}{cs:List Value}{x:DataW H×List MemPlace}(h:DataW.trod enc Tryz.prog W 0 spare held n 32 cs=some x)(hw:(x.1.weights Tryz.prog 32).all (· <=B)=true):
  ∃(l:List Int) (v:Value),cs= [v]/\v.oneCell'=true/\Rep (Gg W) (Ad l) v:=by
 obtain⟨l,v,e,h1,h2,_⟩:=JH (sz:=1) V.int Tryz.underlying32 ck.1 (by omega) h hw λn' cs' y hn' hy hwy=>by
  obtain⟨k,rfl⟩:=G3 hy;exact ⟨k, .int .i64 k,rfl,rfl,λc hc=>by simp at hc;subst hc;rfl⟩
 exact⟨l,v,e,h1,h2⟩
theorem AgF {cs:List Value}(h:cs.length=4):∃a b c d,cs= [a,b,c,d]:=by
 match cs,h with
 | [a,b,c,d],_=>exact⟨a,b,c,d,rfl⟩
theorem AeM {cs:List Value}(h:cs.length=2):∃a b,cs= [a,b]:=by
 match cs,h with
 | [a,b],_=>exact⟨a,b,rfl⟩
theorem AgG {cs:List Value}(h:cs.length=7):∃a b c d e f g,cs= [a,b,c,d,e,f,g]:=by
 match cs,h with
 | [a,b,c,d,e,f,g],_=>exact⟨a,b,c,d,e,f,g,rfl⟩
theorem Z3 (fuel:Nat)(cs:List Value)(x:DataW H×List MemPlace)(h:DataW.trod enc Tryz.prog W 0 spare held fuel 42 cs=some x)(hw:(x.1.weights Tryz.prog 42).all (· <=B)=true):∃i:AQ,RC (Gg W) (AL i) cs:=by
 obtain⟨n,rfl,hl,hf⟩:=EB Tryz.underlying42 h hw;rw [AfY] at hl;obtain ⟨v0,v1,v2,v3,rfl⟩:=AgF hl;obtain ⟨y0,h0,_⟩:=hf 0 3 0 rfl;obtain ⟨y1,h1,_⟩:=hf 1 3 1 rfl;obtain ⟨y2,h2,_⟩:=hf 2 3 2 rfl;obtain ⟨y3,h3,w3⟩:=hf 3 32 3 rfl;rw [ck.1] at h0 h1 h2;rw [ck.2.1] at h3;obtain ⟨a,e0⟩:=G3 h0;obtain ⟨b,e1⟩:=G3 h1;obtain ⟨c,e2⟩:=G3 h2;obtain ⟨l,v,e3,hv1,hv⟩:=IJ h3 w3;simp at e0 e1 e2 e3;subst e0 e1 e2 e3;refine ⟨⟨a,b,c,l⟩, .agg #[.int .i64 a, .int .i64 b, .int .i64 c,v3],⟨rfl,_,rfl,_,_,rfl,rfl,_,_,rfl,rfl,_,_,rfl,rfl,_,_,rfl,hv,rfl⟩,rfl,?_⟩;intro c hc;simp at hc;rcases hc with rfl | rfl | rfl | rfl
 .rfl
 .rfl
 .rfl
 exact hv1
theorem WN (fuel:Nat)(cs:List Value)(x:DataW H×List MemPlace)(h:DataW.trod enc Tryz.prog W 0 spare held fuel 64 cs=some x)(hw:(x.1.weights Tryz.prog 64).all (· <=B)=true):∃e:Am,RC (Gg W) (AA e) cs:=by
 obtain⟨n,rfl,hl,hf⟩:=EB Tryz.underlying64 h hw;rw [Aee] at hl;obtain ⟨v0,v1,rfl⟩:=AeM hl;obtain ⟨y0,h0,_⟩:=hf 0 3 0 rfl;obtain ⟨y1,h1,w1⟩:=hf 1 32 1 rfl;rw [ck.1] at h0;rw [ck.2.1] at h1;obtain ⟨a,e0⟩:=G3 h0;obtain ⟨l,v,e1,hv1,hv⟩:=IJ h1 w1;simp at e0 e1;subst e0 e1;refine ⟨⟨a,l⟩, .agg #[.int .i64 a,v1],⟨rfl,_,rfl,_,_,rfl,rfl,_,_,rfl,hv,rfl⟩,rfl,?_⟩;intro c hc;simp at hc;rcases hc with rfl | rfl
 .rfl
 exact hv1
instance:Inhabited V:=⟨.raw undef⟩
theorem TJ (fuel:Nat)(cs:List Value)(x:DataW H×List MemPlace)(h:DataW.trod enc Tryz.prog W 0 spare held fuel 40 cs=some x)(hw:(x.1.weights Tryz.prog 40).all (· <=B)=true):∃b: { b:Aa // b.ins.length*48<=B },RC (Gg W) (An b.1) cs:=by
 obtain⟨n,rfl,hl,hf⟩:=EB Tryz.underlying40 h hw;rw [Z2] at hl;obtain ⟨v0,v1,v2,v3,v4,v5,v6,rfl⟩:=AgG hl;obtain ⟨y0,h0,w0⟩:=hf 0 32 0 rfl;obtain ⟨y1,h1,w1⟩:=hf 1 35 1 rfl;obtain ⟨y2,h2,w2⟩:=hf 2 38 2 rfl;rw [ck.2.1] at h0;rw [ck.2.2.1] at h1;rw [AfZ] at h2;obtain ⟨ps,u0,e0,o0,r0⟩:=IJ h0 w0;obtain ⟨is,u1,e1,o1,r1,hb⟩:=JH (sz:=4) AL Tryz.underlying35 AfY (by omega) h1 w1 λn' cs' y hn' hy hwy=>Z3 n' cs' y hy hwy;rw [AgE] at hb;simp at e0 e1;subst e0 e1;obtain ⟨m,rfl,hl2,hg⟩:=EB Tryz.underlying38 h2 w2;obtain ⟨z0,g0,_⟩:=hg 0 3 0 rfl;obtain ⟨z1,g1,_⟩:=hg 1 3 1 rfl;obtain ⟨z2,g2,_⟩:=hg 2 3 2 rfl;obtain ⟨z3,g3,x3⟩:=hg 3 32 3 rfl;obtain ⟨z4,g4,x4⟩:=hg 4 36 4 rfl;rw [ck.1] at g0 g1 g2;rw [ck.2.1] at g3;rw [ck.2.2.2.1] at g4;obtain ⟨a,e2⟩:=G3 g0;obtain ⟨b,e3⟩:=G3 g1;obtain ⟨c,e4⟩:=G3 g2;obtain ⟨l,u5,e5,o5,r5⟩:=IJ g3 x3;obtain ⟨es,u6,e6,o6,r6,_⟩:=JH (sz:=2) AA Tryz.underlying36 Aee (by omega) g4 x4 λn' cs' y hn' hy hwy=>WN n' cs' y hy hwy;simp at e2 e3 e4 e5 e6;subst e2 e3 e4 e5 e6;refine ⟨⟨⟨ps,is,⟨a,b,c,l,es⟩⟩,hb⟩, .agg #[v0,v1, .int .i64 a, .int .i64 b, .int .i64 c,v5,v6],⟨rfl,_,rfl,_,_,rfl,r0,_,_,rfl,r1,_,_,rfl,rfl,_,_,rfl,rfl,_,_,rfl,rfl,_,_,rfl,r5,_,_,rfl,r6,rfl⟩,rfl,?_⟩;intro c hc;simp at hc;rcases hc with rfl | rfl | rfl | rfl | rfl | rfl | rfl
 .exact o0
 .exact o1
 .rfl
 .rfl
 .rfl
 .exact o5
 exact o6
instance:Inhabited { b:Aa // b.ins.length*48<=B }:=⟨⟨⟨[],[],default⟩,by simp⟩⟩
theorem WO (fuel:Nat)(cs:List Value)(x:DataW H×List MemPlace)(h:DataW.trod enc Tryz.prog W 0 spare held fuel 31 cs=some x)(hw:(x.1.weights Tryz.prog 31).all (· <=B)=true):∃f: { f:Ai // ∀b∈f.qa,b.ins.length*48<=B },RC (Gg W) (Bs f.1) cs:=by
 obtain⟨n,rfl,hl,hf⟩:=EB Tryz.underlying31 h hw;rw [Aef] at hl;obtain ⟨v0,v1,rfl⟩:=AeM hl;obtain ⟨y0,h0,_⟩:=hf 0 3 0 rfl;obtain ⟨y1,h1,w1⟩:=hf 1 29 1 rfl;rw [ck.1] at h0;rw [ck.2.2.2.2.1] at h1;obtain ⟨a,e0⟩:=G3 h0;obtain ⟨bs,u1,e1,o1,r1,_⟩:=JH (sz:=7) (λ b: { b:Aa // b.ins.length*48<=B }=>An b.1) Tryz.underlying29 Z2 (by omega) h1 w1 λn' cs' y hn' hy hwy=>TJ n' cs' y hy hwy;simp at e0 e1;subst e0 e1;refine ⟨⟨⟨a,bs.map (·.1)⟩,?_⟩, .agg #[.int .i64 a,v1],?_,rfl,?_⟩
 .intro b hb;obtain ⟨b',_,rfl⟩:=List.mem_map.1 hb;exact b'.2
 .have r1':Rep (Gg W) (Ae (bs.map (·.1))) v1:=by rw [Ae,List.map_map];exact r1
  exact⟨rfl,_,rfl,_,_,rfl,rfl,_,_,rfl,r1',rfl⟩
 intro c hc;simp at hc;rcases hc with rfl | rfl
 .rfl
 exact o1
instance:Inhabited { f:Ai // ∀b∈f.qa,b.ins.length*48<=B }:=⟨⟨⟨0,[]⟩,λb hb=>by cases hb⟩⟩
def Z4 (f:Ai):Prop:=∀b∈f.qa,b.ins.length<=2932031007402
def Z5 (u:Ao):Prop:=∀f∈u.fns,Z4 f
theorem AeN {f:Ai}(h:∀b∈f.qa,b.ins.length*48<=reachBytes):Z4 f:=λb hb=>by
 have:=h b hb;unfold reachBytes at this;omega
theorem TK {fuel:Nat}{cs:Array Value}{x:DataW H×List MemPlace}(h:DataW.trod enc Tryz.prog W 0 spare held fuel 24 (Value.agg cs).cells.toList=some x)(hw:(x.1.weights Tryz.prog 24).all (· <=reachBytes)=true):∃u:Ao,Z5 u/\Rep (Gg W) (DT u) (.agg cs):=by
 obtain⟨n,rfl,hl,hf⟩:=EB Tryz.underlying24 h hw;rw [Af0] at hl;obtain ⟨v0,v1,hcs⟩:=AeM hl;rw [hcs] at hf;obtain ⟨y0,h0,w0⟩:=hf 0 22 0 rfl;obtain ⟨y1,h1,_⟩:=hf 1 3 1 rfl;rw [ck.1] at h1;rw [ck.2.2.2.2.2] at h0;obtain ⟨fs,u0,e0,o0,r0,_⟩:=JH (sz:=2) (λ f: { f:Ai // ∀b∈f.qa,b.ins.length*48<=reachBytes }=>Bs f.1) Tryz.underlying22 Aef (by omega) h0 w0 λn' cs' y hn' hy hwy=>WO n' cs' y hy hwy;obtain ⟨a,e1⟩:=G3 h1;simp at e0 e1;subst e0 e1;have hcs2:cs.toList= [v0, .int .i64 a]:=hcs;refine ⟨⟨fs.map (·.1),a⟩,λf hf=> ?_,rfl,cs,rfl,?_⟩
 .obtain ⟨f',_,rfl⟩:=List.mem_map.1 hf;exact AeN f'.2
 rw [hcs2];have r0':Rep (Gg W) (BV (fs.map (·.1))) v0:=by rw [BV,List.map_map];exact r0
 exact⟨_,_,rfl,r0',_,_,rfl,rfl,rfl⟩
end
end Go.Proofs.YthlflmmnankhhaaGreat.VG3
