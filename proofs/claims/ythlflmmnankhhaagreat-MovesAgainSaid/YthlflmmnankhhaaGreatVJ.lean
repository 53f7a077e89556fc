import Derived.Test.YthlflmmnankhhaaGreatVI
import Derived.Sort.OwnSortedInts
import Derived.Shelf.Sort.Plain
set_option linter.all false
namespace Go.VL
open Go.Sort
theorem OQ {m:Mem}:∀ {l:List Int} {us:List Value},RepL m (l.map V.int) us->us=l.map (Value.int .i64)
 | [],us,h=>h
 | x::l,us,⟨u,us',e,r,k⟩=>by
  rw [e,show u= .int .i64 x from r,OQ k];rfl
theorem JZ {m:Mem}:∀l:List Int,RepL m (l.map V.int) (l.map (Value.int .i64))
 | []=>rfl
 | x::l=>⟨_,_,rfl,rfl,JZ l⟩
theorem AaF (cs:Array Value)(d:List Int)(h:d.length<=cs.size):(putCells (Value.int .i64) 0 d.toArray cs).toList=d.map (Value.int .i64)++cs.toList.drop d.length:=by
 have h1:=take_putCellsI cs d h;have hs:(putCells (Value.int .i64) 0 d.toArray cs).toList.length=cs.size:=by simp [putCells]
 conv=>lhs;rw [<- List.take_append_drop d.length (putCells (Value.int .i64) 0 d.toArray cs).toList]
 rw [h1]
 congr 1
 apply List.ext_getElem?;intro j;rw [List.getElem?_drop,List.getElem?_drop,Array.getElem?_toList,Array.getElem?_toList];simp only [putCells,Array.getElem?_mapIdx]
 cases hc:cs[d.length+j]? with
 | none=>rfl
 | some v=>
  rw [Option.map_some,if_neg (by simp)]
section
variable {P:Program}
theorem Ub {F:FuncId} (hc:∀(blk off cap:Nat) (zs:List Int) (w:World),Holds (Value.int .i64) w blk off zs.toArray->blk<w.heap.size->zs.length<4611686018427387904->
      Calls P F #[.slice (some ⟨blk,off,none⟩) zs.length cap] w λe w'=>e= .returned (.tuple #[])/\∃n os,w'=grow (putRow (Value.int .i64) (Sort.ahead w n) blk off (zs.mergeSort λx y=>decide (x<=y)).toArray) os)
    (g cap:Nat) (T:TypeId) (l:List Int) (rest:List V) (hl:l.length<=1000000):
    AH P F [.raw (.slice (some ⟨g,0,none⟩) l.length cap)] [.cells g T (l.map V.int++rest)] λr S'=>S'= [.cells g T ((l.mergeSort λx y=>decide (x<=y)).map V.int++rest)]:=by
  intro m w us ha hw;obtain ⟨u,us',rfl,hu,hu'⟩:=ha;have hu:u= .slice (some ⟨g,0,none⟩) l.length cap:=hu;have hu':us'= []:=hu';subst hu hu';obtain ⟨hleaf,⟨cs,hh,hr⟩,hfree⟩:=Ch (i:=0) hw rfl;have hgl:g<w.heap.size:=(Array.getElem?_eq_some_iff.1 hh).1;have h1:=hr.take l.length;rw [List.take_append_of_le_length (by simp),List.take_of_length_le (by simp)] at h1;have htk:=OQ h1;have h2:=hr.drop l.length;rw [List.drop_append_of_le_length (by simp),List.drop_of_length_le (by simp),List.nil_append] at h2
  have hlc:l.length<=cs.size:=by
    have e:=congrArg List.length htk;simp at e;omega
  refine(hc g 0 cap l w (holds_of_blockI hh htk) hgl (by omega)).mono ?_;rintro e w' ⟨rfl,n,os,rfl⟩;obtain ⟨d,hd⟩:∃d,d=l.mergeSort λx y=>decide (x<=y):=⟨_,rfl⟩;rw [<- hd];have hdl:d.length=l.length:=by rw [hd,List.length_mergeSort]
  have hheap:(grow (putRow (Value.int .i64) (Sort.ahead w n) g 0 d.toArray) os).heap[g]? =some (.cells (putCells (Value.int .i64) 0 d.toArray cs) T):=heap_sortedI _ hh
  have hold:∀b,b<w.heap.size->b≠g->(grow (putRow (Value.int .i64) (Sort.ahead w n) g 0 d.toArray) os).heap[b]? =w.heap[b]? :=λb hb hne=>by
    rw [heap_grow_old _ _ (by simpa using hb)];simp [putRow,mapBlock,Sort.ahead,Array.getElem?_modify,Ne.symm hne]
  refine⟨.raw (.tuple #[]),_,m, .tuple #[],rfl,rfl,rfl,⟨⟨λ b o v hv=> ?_,?_,?_⟩,rfl,rfl,rfl,?_,?_,Sub.refl m,λb o v hv=> .inl hv,λb hb=> .inl hb⟩⟩
  . have hne:b≠g:=by
      rintro rfl;rw [hfree o] at hv
      cases hv
    rw [Hy (hold b (hw.mem_lt hv) hne)];exact hw.agree b o v hv
  . exact hw.nodup
  . intro e he;rw [List.mem_singleton.1 he];refine ⟨?_,⟨_,hheap,?_⟩,hfree⟩
    . rw [List.all_append,Bool.and_eq_true] at hleaf ⊢;refine ⟨?_,hleaf.2⟩;rw [List.all_eq_true];intro x hx;obtain ⟨n,_,rfl⟩:=List.mem_map.1 hx;rfl
    rw [AaF cs d (by omega),hdl];exact (JZ d).append h2
  . simp [grow,putRow,mapBlock,Sort.ahead]
  intro b hb hn;refine hold b hb λe=>hn ?_;rw [e];exact List.mem_singleton.2 rfl
end
end Go.VL
