import Derived.Test.YthlflmmnankhhaaGreatVY2
set_option linter.all false
section
namespace Go.SM
open Go.VL
structure AQ where
 to:Int
 op:Int
 n:Int
 args:List Int
 deriving DecidableEq,Inhabited
structure Am where
 block:Int
 args:List Int
 deriving DecidableEq,Inhabited
structure BG where
 kind:Int
 arg:Int
 n:Int
 cases:List Int
 to:List Am
 deriving DecidableEq,Inhabited
structure Aa where
 params:List Int
 ins:List AQ
 qb:BG
 deriving DecidableEq,Inhabited
structure Ai where
 name:Int
 qa:List Aa
 deriving DecidableEq,Inhabited
structure Ao where
 fns:List Ai
 main:Int
 deriving DecidableEq,Inhabited
def Ad (l:List Int):V:= .sl 1 none (l.map V.int)
def AL (i:AQ):V:= .agg [.int i.to, .int i.op, .int i.n,Ad i.args]
def AA (e:Am):V:= .agg [.int e.block,Ad e.args]
def AF (l:List AQ):V:= .sl 4 none (l.map AL)
def AC (l:List Am):V:= .sl 2 none (l.map AA)
def He (t:BG):V:= .agg [.int t.kind, .int t.arg, .int t.n,Ad t.cases,AC t.to]
def An (b:Aa):V:= .agg [Ad b.params,AF b.ins, .int b.qb.kind, .int b.qb.arg, .int b.qb.n,Ad b.qb.cases,AC b.qb.to]
def Ae (l:List Aa):V:= .sl 7 none (l.map An)
def Bs (f:Ai):V:= .agg [.int f.name,Ae f.qa]
def BV (l:List Ai):V:= .sl 2 none (l.map Bs)
def DT (u:Ao):V:= .agg [BV u.fns, .int u.main]
def wi (n lo hi:Int):Bool:=decide (lo<=n)&&decide (n<=hi)
theorem C0 {n lo hi:Int}:wi n lo hi=true↔lo<=n/\n<=hi:=by simp [wi]
def P8 (n:Int):Bool:=wi n (-1073741824) 1073741823
def op2:List Int:= [1,2,3,4,5,6,7,16,18,19,21,23]
def op1:List Int:= [10,11,12,15,17,24]
def Rp:List Int:= [8,9,13,14]
def Cv (i:AQ):Int×Bool:=
 if i.op=0 then (0,true) else if Bh i.op op2 then (2,true) else if i.op=20 then (3,true) else if Bh i.op op1 then (1,true)
 else if Bh i.op Rp then (-1,true) else if i.op=22 then (i.n,decide (i.n=2)||decide (i.n=4)) else (0,false)
def GP (i:AQ):Bool:=
 if i.op=0 then P8 i.n else if i.op=8 then wi i.n 0 255 else if i.op=11 then wi i.n 0 15 else if Bh i.op [9,13] then wi i.n 0 255
 else if i.op=23 then decide (i.n=1)||decide (i.n=2)||decide (i.n=3) else if i.op=24 then wi i.n 0 3 else if i.op=22 then true else decide (i.n=0)
def De (i:AQ):Bool:= !(Cv i).2||decide (0<=(Cv i).1)&&decide ((i.args.length:Int)≠(Cv i).1)||decide (i.op=14)&&decide ((i.args.length:Int)=0)
def A0 (i:AQ):Bool:=(decide (i.op=8)||decide (i.op=9))&&decide (16<(i.args.length:Int))||(decide (i.op=13)||decide (i.op=14))&&decide (6<(i.args.length:Int))
def FQ (i:AQ):Int:=if De i then 3 else if A0 i then 2 else if GP i then 0 else 4
def Dh (t:BG):Bool:=
 if t.kind=0 then decide ((t.to.length:Int)=0)&&decide (t.n=0)&&decide ((t.cases.length:Int)=0)
 else if t.kind=1 then decide ((t.to.length:Int)=1)&&decide (t.arg=0)&&decide (t.n=0)&&decide ((t.cases.length:Int)=0)
 else if t.kind=2 then decide ((t.to.length:Int)=2)&&decide (t.n=0)&&decide ((t.cases.length:Int)=0)
 else if t.kind=3 then decide ((t.to.length:Int)=t.cases.length+1)&&decide (t.n=0)
 else if t.kind=4 then decide ((t.to.length:Int)=0)&&decide (t.arg=0)&&decide ((t.cases.length:Int)=0)
 else false
def BM:List Int->List Int->Int
 | _,[]=>0
 | pre,c::cs=>if P8 c=false then 4 else if pre.any (λ x=>decide (c=x)) then 7 else BM (pre++ [c]) cs
def AI (bs:List Aa)(k:Int):List Int:=((bs[k.toNat]?).map (·.params)).getD []
def Cx (bs:List Aa):List Am->Int
 | []=>0
 | e::es=>if wi e.block 1 (bs.length - 1)=false then 4 else if e.args.length≠(AI bs e.block).length then 3 else Cx bs es
def HX (bs:List Aa)(t:BG):Int:=
 if Dh t=false then 3 else if 256<(t.cases.length:Int) then 2 else if t.kind=4/\wi t.n 1 6=false then 4
 else if BM [] t.cases≠0 then BM [] t.cases else Cx bs t.to
abbrev BB:=List (Int×Int×Int)
def Cc:BB->Int->Option (Int×Int)
 | [],_=>none
 | (k,p)::l,x=>if k=x then some p else Cc l x
def By (v:Int)(p:Int×Int)(d:BB):Int×BB:=
 if wi v 0 4095=false then (4,d) else if (Cc d v).isSome then (7,d) else (0,d++ [(v,p)])
def BH (k:Int):List Int->BB->Int×BB
 | [],d=>(0,d)
 | p::ps,d=>if (By p (k,0) d).1≠0 then By p (k,0) d else BH k ps (By p (k,0) d).2
def Da (k:Int):Int->List AQ->BB->Int×BB
 | _,[],d=>(0,d)
 | n,i::is,d=>if (By i.to (k,n+1) d).1≠0 then By i.to (k,n+1) d else if FQ i≠0 then (FQ i,(By i.to (k,n+1) d).2) else Da k (n+1) is (By i.to (k,n+1) d).2
def Di (bs:List Aa)(k:Int)(b:Aa)(d:BB):Int×BB:=
 if (BH k b.params d).1≠0 then BH k b.params d
 else if (Da k 0 b.ins (BH k b.params d).2).1≠0 then Da k 0 b.ins (BH k b.params d).2
 else (HX bs b.qb,(Da k 0 b.ins (BH k b.params d).2).2)
def Bv (bs:List Aa):Int->List Aa->BB->Int×BB
 | _,[],d=>(0,d)
 | k,b::l,d=>if (Di bs k b d).1≠0 then Di bs k b d else Bv bs (k+1) l (Di bs k b d).2
def HD (p:Int×Int):V:= .agg [.int p.1, .int p.2]
def Hf (d:BB):List (Int×V):=d.map λe=>(e.1,HD e.2)
theorem KT (v:Int):∀d:BB,C7 (Hf d) v=(Cc d v).map HD
 | []=>rfl
 | (k,p)::d=>by
  show(if k=v then some (HD p) else C7 (Hf d) v)=_;rw [KT v d,Cc];split <;> rfl
theorem OE (v:Int)(p:Int×Int):∀ {d:BB},Cc d v=none->Co (Hf d) v (HD p)=Hf (d++ [(v,p)])
 | [],_=>rfl
 | (k,q)::d,h=>by
  rw [Cc] at h;split at h
  .cases h
  rename_i hk;show (if k=v then _ else (k,HD q)::Co (Hf d) v (HD p))=_;rw [if_neg hk,OE v p h];rfl
theorem OF (d:BB)(v:Int):(C7 (Hf d) v).isSome=(Cc d v).isSome:=by rw [KT];cases Cc d v <;> rfl
theorem Vs (d:BB)(v:Int):(C7 (Hf d) v).getD (.agg [.raw (.int .i64 0), .raw (.int .i64 0)])=HD ((Cc d v).getD (0,0)):=by rw [KT];cases Cc d v <;> rfl
abbrev BN:=BitVec 64×BitVec 64
def BN.word (s:BN)(k:Nat):BitVec 64:=if k / 64=0 then s.1 else s.2
def BN.has (s:BN)(k:Nat):Bool:=(s.word k >>> (k % 64)) &&& 1#64==1#64
def BN.with (s:BN)(k:Nat):BN:=if k / 64=0 then (s.1 ||| 1#64 <<< (k % 64),s.2) else (s.1,s.2 ||| 1#64 <<< (k % 64))
def Ec (s:BN):V:= .agg [.u64 s.1, .u64 s.2]
def E1:BN:=(0#64,0#64)
def Rq (l:List BN):V:= .sl 2 none (l.map Ec)
def BN.both (s t:BN):BN:=(s.1 &&& t.1,s.2 &&& t.2)
def Ea:Nat->BN
 | 0=>E1
 | n+1=>(Ea n).with n
structure Dom where
 over:List BN
 seen:BN
 again:Bool
def Dom.at (d:Dom)(k:Nat):BN:=d.over[k]?.getD E1
def Bj (k:Nat)(d:Dom)(e:Am):Dom:=
 let t:=e.block.toNat
 let next:=((d.at t).both (d.at k)).with t
 if next≠d.at t\/d.seen.has t=false then ⟨d.over.set t next,d.seen.with t,true⟩ else d
def BJ (d:Dom)(k:Nat)(b:Aa):Dom:=if d.seen.has k then b.qb.to.foldl (Bj k) d else d
def Ca:Nat->List Aa->Dom->Dom
 | _,[],d=>d
 | k,b::l,d=>Ca (k+1) l (BJ d k b)
def CU (n:Nat):Dom:=⟨(List.replicate n (Ea n)).set 0 (BN.with E1 0),BN.with E1 0,true⟩
def DJ (bs:List Aa):Nat->Dom->Dom
 | 0,d=>d
 | n+1,d=>if d.again then DJ bs n (Ca 0 bs { d with again:=false }) else d
def L3 (n:Nat):Nat:=129*n+2
def B8 (bs:List Aa):Dom:=DJ bs (L3 bs.length) (CU bs.length)
def CP (d:BB)(o:Dom)(k:Nat)(at_:Int)(v:Int):Bool:=
 match Cc d v with
 | none=>false
 | some p=>decide (p.1=k)&&decide (p.2<=at_)||decide (p.1≠k)&&(o.at k).has p.1.toNat|| !o.seen.has k
def Fx (t:BG)(use:Int->Bool):Bool:=
 if (t.kind≠1/\t.kind≠4)/\use t.arg=false then false else t.to.all λe=>e.args.all use
def C6 (d:BB)(o:Dom)(k:Nat):Int->List AQ->Bool
 | _,[]=>true
 | n,i::is=>i.args.all (CP d o k n)&&C6 d o k (n+1) is
def EC (d:BB)(o:Dom):Nat->List Aa->Int
 | _,[]=>0
 | k,b::l=>if C6 d o k 0 b.ins=false then 6 else if Fx b.qb (CP d o k b.ins.length)=false then 6 else EC d o (k+1) l
def BX:Int->List Aa->Int
 | n,[]=>n
 | n,b::l=>BX (IntKind.i64.wrap (n+b.ins.length)) l
def Bu (f:Ai):Int:=
 if f.qa.length=0 then 3
 else if 128<(f.qa.length:Int)\/1024<BX 0 f.qa\/6<((AI f.qa 0).length:Int) then 2
 else if wi f.name (-1) 1048575=false then 4
 else if (Bv f.qa 0 f.qa []).1≠0 then (Bv f.qa 0 f.qa []).1
 else EC (Bv f.qa 0 f.qa []).2 (B8 f.qa) 0 f.qa
def AT (u:Ao)(k:Int):List Int:=((u.fns[k.toNat]?).map λf=>AI f.qa 0).getD []
def CG (u:Ao)(i:AQ):Int:=
 if i.op≠13/\i.op≠9 then 0 else if (u.fns.length:Int)<=i.n then 4
 else if i.op=13/\(AT u i.n).length≠i.args.length\/i.op=9/\(AT u i.n).length=0 then 3 else 0
def Ax {α:Type}(f:α->Int):List α->Int
 | []=>0
 | x::l=>if f x≠0 then f x else Ax f l
def G4 (u:Ao):Int:=Ax (λ f=>Ax (λ b=>Ax (CG u) b.ins) f.qa) u.fns
def Cm (u:Ao):Int:=
 if u.fns.length=0 then 3 else if 256<(u.fns.length:Int) then 2 else if wi u.main 0 (u.fns.length - 1)=false then 4
 else if Ax Bu u.fns≠0 then Ax Bu u.fns
 else if (AT u u.main).length>0 then 3 else G4 u
def CH (n:Int):Int:=(n+1073741824) % 2147483648 - 1073741824
def AcB (a b:Int):Int:=if CH b=0 then 0 else CH ((CH a).tdiv (CH b))
def AcC (a b:Int):Int:=if CH b=0 then 0 else (CH a).tmod (CH b)
inductive Val where
 | mk (kind n:Int) (list:List Val) (arr:Option Nat)
namespace Val
def kind:Val->Int
 | .mk k _ _ _=>k
def n:Val->Int
 | .mk _ n _ _=>n
def list:Val->List Val
 | .mk _ _ l _=>l
def arr:Val->Option Nat
 | .mk _ _ _ a=>a
def word (n:Int):Val:= .mk 0 n [] none
def zero:Val:= .mk 0 0 [] none
end Val
instance:Inhabited Val:=⟨Val.zero⟩
def MI (ρ:Nat->Nat):Option Nat->V
 | none=> .raw (.pointer none)
 | some k=> .ptr (ρ k) 0
mutual
def KU (ρ:Nat->Nat):Val->V
 | .mk k n l a=> .agg [.int k, .int n, .sl 4 none (Lu ρ l),MI ρ a]
def Lu (ρ:Nat->Nat):List Val->List V
 | []=> []
 | v::l=>KU ρ v::Lu ρ l
end
theorem OG (ρ:Nat->Nat):∀l,Lu ρ l=l.map (KU ρ)
 | []=>rfl
 | v::l=>by rw [Lu,OG ρ l,List.map_cons]
def Ed (ρ:Nat->Nat)(l:List Val):V:= .sl 4 none (l.map (KU ρ))
def AV (ρ:Nat->Nat)(v:Val):V:= .agg [.int v.kind, .int v.n,Ed ρ v.list,MI ρ v.arr]
theorem L4 (ρ:Nat->Nat)(v:Val):KU ρ v=AV ρ v:=by
 cases v with
 | mk k n l a=>rw [KU,OG];rfl
theorem Gm {ρ:Nat->Nat}{l:List Val}{k:Nat}{x:Val}(h:l[k]? =some x):(l.map (KU ρ))[k]? =some (AV ρ x):=by rw [Aq (KU ρ) h,L4]
theorem Ba {l:List Val}{k:Nat}(h:k<l.length){ρ:Nat->Nat}:(l.map (KU ρ))[k]? =some (AV ρ (l[k]?.getD Val.zero)):=by
 rw [List.getElem?_eq_getElem h];exact Gm (List.getElem?_eq_getElem h)
theorem BK (ρ:Nat->Nat)(k n:Int):V.le (.agg [.int k, .int n,V.nilSl, .raw (.pointer none)]) (AV ρ (.mk k n [] none)):=V.le.agg ⟨V.le.refl _,rfl,V.le.refl _,rfl,V.le.nil 4,rfl,V.le.refl _,rfl,trivial⟩
def HY (k:Int):List Val->Bool
 | []=>true
 | v::l=>decide (v.kind=k)&&HY k l
def MJ (b:Bool):Val:=if b then Val.word 1 else Val.word 0
def Ah (l:List Val)(k:Nat):Val:=l[k]?.getD Val.zero
def Du (op a b:Int):Val×Int:=
 if op=1 then (.word (CH (a+b)),0) else if op=2 then (.word (CH (a - b)),0) else if op=3 then (.word (CH (CH a*CH b)),0)
 else if op=6 then (MJ (decide (a<b)),0) else if op=7 then (MJ (decide (a=b)),0) else if b=0 then (.zero,1)
 else if op=4 then (.word (AcB a b),0) else (.word (AcC a b),0)
def F4 (i:AQ)(args:List Val):Val×Int:=
 let o:=Ah args 0
 if i.op=11 then if (o.kind≠1/\o.kind≠2)\/(o.list.length:Int)<=i.n then (.zero,5) else (Ah o.list i.n.toNat,0)
 else if o.kind≠1 then (.zero,5) else if i.op=10 then (.word o.n,0) else if i.op=12 then (.word o.list.length,0)
 else if (Ah args 1).kind≠0 then (.zero,5)
 else if (Ah args 1).n<0\/(o.list.length:Int)<=(Ah args 1).n then (.zero,2) else (Ah o.list (Ah args 1).n.toNat,0)
def Cy (op:Int):List Val->List Val->List Val
 | a::as,b::bs=>(Du op a.n b.n).1::Cy op as bs
 | _,_=> []
def F5 (i:AQ)(args:List Val):Val×Int:=
 if i.op=22 then if HY 0 args=false then (.zero,5) else (.mk 4 0 args none,0)
 else if i.op=24 then if (Ah args 0).kind≠4\/((Ah args 0).list.length:Int)<=i.n then (.zero,5) else (Ah (Ah args 0).list i.n.toNat,0)
 else if HY 4 args=false\/((Ah args 0).list.length:Int)≠(Ah args 1).list.length then (.zero,5)
 else (.mk 4 0 (Cy i.n (Ah args 0).list (Ah args 1).list) none,0)
abbrev Cu:=List (Int×Val)
def AN:Cu->Int->Val
 | [],_=>Val.zero
 | (k,v)::l,x=>if k=x then v else AN l x
def CM:Cu->Int->Val->Cu
 | [],x,v=> [(x,v)]
 | (k,u)::l,x,v=>if k=x then (k,v)::l else (k,u)::CM l x v
def Cd:Cu->List Int->List Val->Cu
 | m,p::ps,v::vs=>Cd (CM m p v) ps vs
 | m,_,_=>m
structure Ar where
 fn:Int
 block:Int
 at_:Int
 to:Int
 qc:Cu
structure AE where
 stack:List Ar
 left:Int
 short:Bool
 over:Bool
 out:List Int
 fin:Int
 value:Int
 heap:List (List Val)
def Bw (n:Int)(M:AE):AE:=if M.left<n then { M with short:=true,over:=true } else { M with left:=M.left - n }
def DU (e n:Int)(M:AE):AE:= { M with over:=true,fin:=e,value:=n }
def Bk (u:Ao)(fn:Int)(args:List Val)(to:Int):Ar:=⟨fn,0,0,to,Cd [] (AT u fn) args⟩
def Dv (u:Ao)(fn:Int)(args:List Val)(to:Int)(M:AE):AE:= { M with stack:=Bk u fn args to::M.stack }
def AG (m:Cu)(l:List Int):List Val:=l.map (AN m)
def A7 (size fill:Val)(M:AE):AE×Val×Int:=
 if size.kind≠0 then (M, .zero,5) else if size.n<0\/1024<size.n then (M, .zero,6)
 else if (Bw size.n M).short then (Bw size.n M, .zero,0)
 else ({ Bw size.n M with heap:=M.heap++ [List.replicate size.n.toNat fill] }, .mk 3 0 [] (some M.heap.length),0)
def Fy (M:AE)(v:Val):List Val:=((v.arr).bind (M.heap[·]?)).getD []
def C1 (M:AE)(v:Val)(l:List Val):AE:=
 match v.arr with
 | none=>M
 | some k=> { M with heap:=M.heap.set k l }
def AY (i:AQ)(args:List Val)(M:AE):AE×Val×Int:=
 if i.op=15 then
  if (Ah args 0).kind≠0 then (M, .zero,5) else if (M.out.length:Int)=1000 then (M, .zero,6) else ({ M with out:=M.out++ [(Ah args 0).n] }, .word 0,0)
 else if i.op=16 then A7 (Ah args 0) (Ah args 1) M
 else if i.op=18 then
  if HY 0 args=false then (M, .zero,5) else if (Ah args 0).n<0\/(Ah args 1).n<=(Ah args 0).n then (M, .zero,2) else (M, .word 0,0)
 else if (Ah args 0).kind≠3\/i.op≠17/\(Ah args 1).kind≠0 then (M, .zero,5)
 else if i.op=17 then (M, .word (Fy M (Ah args 0)).length,0)
 else if (Ah args 1).n<0\/((Fy M (Ah args 0)).length:Int)<=(Ah args 1).n then (M, .zero,2)
 else if i.op=19 then (M,Ah (Fy M (Ah args 0)) (Ah args 1).n.toNat,0)
 else (C1 M (Ah args 0) ((Fy M (Ah args 0)).set (Ah args 1).n.toNat (Ah args 2)), .word 0,0)
def AZ (i:AQ)(args:List Val)(M:AE):AE×Val×Int:=
 if i.op=0 then (M, .word i.n,0)
 else if Bh i.op [1,2,3,4,5,6,7] then
  if HY 0 args=false then (M, .zero,5) else (M,Du i.op (Ah args 0).n (Ah args 1).n)
 else if i.op=8 then (M, .mk 1 i.n args none,0)
 else if i.op=9 then (M, .mk 2 i.n args none,0)
 else if Bh i.op [10,11,12,21] then (M,F4 i args)
 else if Bh i.op [22,23,24] then (M,F5 i args)
 else if i.op=100 then (M,Ah args 0,0)
 else AY i args M
def Aw (u:Ao)(fn k:Int):Aa:=((u.fns[fn.toNat]?).bind λf=>f.qa[k.toNat]?).getD default
def AM (u:Ao)(f:Ar)(e:Am):Ar:=
 { f with block:=e.block,at_:=0,qc:=Cd f.qc (Aw u f.fn e.block).params (AG f.qc e.args) }
def DK (t:BG)(n:Int):Int:=
 if t.kind=2 then if n≠0 then 0 else 1 else if 0<=idxOf (λ x=>decide (n=x)) t.cases then idxOf (λ x=>decide (n=x)) t.cases else t.cases.length
def FJ (f:Ar)(v:Val)(fs:List Ar)(M:AE):AE:=
 match fs with
 | g::gs=> { M with stack:= { g with qc:=CM g.qc f.to v }::gs }
 | []=>DU 0 (if v.kind=0\/v.kind=1 then v.n else 0) { M with stack:= [] }
def BO (t:BG)(k:Nat):Am:=t.to[k]?.getD default
def Bx (u:Ao)(f:Ar)(t:BG)(fs:List Ar)(M:AE):AE:=
 if t.kind=4 then DU t.n 0 M
 else if t.kind=1 then { M with stack:=AM u f (BO t 0)::fs }
 else if t.kind=0 then FJ f (AN f.qc t.arg) fs M
 else if (AN f.qc t.arg).kind≠0 then DU 5 0 M
 else { M with stack:=AM u f (BO t (DK t (AN f.qc t.arg).n).toNat)::fs }
def D4 (u:Ao)(f:Ar)(i:AQ)(fs:List Ar)(M:AE):AE:=
 let args:=AG f.qc i.args
 if i.op=13 then Dv u i.n args i.to M
 else if i.op=14 then
  if (Ah args 0).kind=2/\(AT u (Ah args 0).n).length=args.length then Dv u (Ah args 0).n args i.to M else DU 5 0 M
 else
  let r:=AZ i args M
  let M1:=if r.2.2≠0 then DU r.2.2 0 r.1 else r.1
  { M1 with stack:= { f with qc:=CM f.qc i.to r.2.1 }::fs }
def As (u:Ao)(M:AE):AE:=
 match M.stack with
 | []=>M
 | f::fs=>
  let b:=Aw u f.fn f.block
  if f.at_=(b.ins.length:Int) then Bx u f b.qb fs M
  else
   let f':= { f with at_:=f.at_+1 }
   D4 u f' (b.ins[f.at_.toNat]?.getD default) fs { M with stack:=f'::fs }
def goF (u:Ao):Nat->AE->AE
 | 0,M=>M
 | n+1,M=>if M.over then M else if (Bw 1 M).short then Bw 1 M else goF u n (As u (Bw 1 M))
def Bd (u:Ao)(fuel:Int):AE:=Dv u u.main [] 0 ⟨[],fuel,false,false,[],0,0,[]⟩
structure Out where
 out:List Int
 fin:Int
 value:Int
 deriving DecidableEq
def BY (u:Ao)(fuel:Int):Out×Int×Int:=
 let M:=goF u (fuel.toNat+1) (Bd u fuel)
 if M.short then (⟨[],0,0⟩,0,13) else (⟨M.out,M.fin,M.value⟩,fuel - M.left,0)
def Cj (u:Ao)(fuel:Int):Out×Int×Int:=
 if Cm u≠0 then (⟨[],0,0⟩,0,Cm u) else if wi fuel 1 1000000=false then (⟨[],0,0⟩,0,4) else BY u fuel
def TL:Ao:=
 ⟨[⟨-1,[⟨[],[⟨0,0,0,[]⟩],⟨1,0,0,[],[⟨1,[0]⟩]⟩⟩,
  ⟨[1],[⟨2,0,3,[]⟩,⟨3,6,0,[1,2]⟩],⟨2,3,0,[],[⟨2,[]⟩,⟨3,[]⟩]⟩⟩,
  ⟨[],[⟨4,15,0,[1]⟩,⟨5,0,1,[]⟩,⟨6,1,0,[1,5]⟩],⟨1,0,0,[],[⟨1,[6]⟩]⟩⟩,
  ⟨[],[],⟨0,1,0,[],[]⟩⟩]⟩],0⟩
theorem Rr:Cj TL 27=(⟨[0,1,2],0,3⟩,27,0):=by decide +kernel
end Go.SM
end
