import Derived.Test.YthlflmmnankhhaaGreatVY2
namespace Go.VL
abbrev Za:= @Q9
abbrev Zb:= @TB
abbrev Zd:= @Oz
abbrev Ze:= @Wu
abbrev Zg:= @P6
abbrev Zh:= @Jl
abbrev Zi:= @ZT
abbrev Zj:= @Rd
abbrev Zk:= @Rc
abbrev Zl:= @AeD
abbrev Zm:= @Vp
abbrev Zn:= @AgB
abbrev Zo:= @Aec
abbrev Zq:= @Aeb
abbrev Zr:= @P7
abbrev Zs:= @ZM
abbrev Zt:= @Acp
abbrev Zu:= @ZQ
abbrev Zv:= @Mu
abbrev Zx:= @Lt
abbrev Zy:= @Vm
abbrev Zz:= @Re
abbrev Za1:= @WH
abbrev Zb1:= @WF
abbrev Zc1:= @Rk
abbrev Zd1:= @AeJ
abbrev Ze1:= @AeI
abbrev Zf1:= @AeB
abbrev Zg1:= @ZV
abbrev Zh1:= @WI
abbrev Zi1:= @Vk
abbrev Zj1:= @Vl
abbrev Zl1:= @WJ
abbrev Zm1:= @WK
abbrev Zn1:= @Rl
abbrev Zo1:= @ZW
abbrev Zp1:= @ZX
abbrev Zq1:= @ZY
abbrev Zr1:= @Hx
abbrev Zs1:= @Acw
abbrev Zt1:= @Acx
abbrev Zv1:= @TC
abbrev Zw1:= @Mt
abbrev Zx1:= @Acv
abbrev Zz1:= @WD
abbrev Za2:= @Oh
abbrev Zb2:= @Acr
abbrev Zc2:= @AfU
abbrev Zd2:= @AeE
abbrev Zf2:= @Acu
abbrev Zg2:= @WC
abbrev Zh2:= @AfR
abbrev Zi2:= @ZU
abbrev Zj2:= @TE
abbrev Zk2:= @AfS
abbrev Zl2:= @AfT
abbrev Zm2:= @AfQ
abbrev Zn2:= @Aex
abbrev Zo2:= @Aed
abbrev Zp2:= @Z1
abbrev Zq2:= @AcA
abbrev Zr2:= @LR
abbrev Zs2:= @Jo
abbrev Zt2:= @Drops.refl
abbrev Zu2:= @Aev
abbrev Zv2:= @AX
abbrev Zw2:= @Aew
abbrev Zx2:= @AfO
abbrev Zy2:= @AgC
abbrev Zz2:= @AgD
abbrev Za3:= @AeL
abbrev Zb3:= @AfX
abbrev Zc3:= @epE
abbrev Zd3:= @AgA
abbrev Ze3:= @Q3
abbrev Zf3:= @PY
abbrev Zg3:= @PZ
abbrev Zh3:= @Of
abbrev Zi3:= @WE
abbrev Zk3:= @AfW
abbrev Zl3:= @ZK
abbrev Zm3:= @KM
abbrev Zn3:= @ZL
section
variable {P:Program}{nt:Nat}{G:Type}{S:Af}{ps:List DP}{F0:Fr}{acc:List (BL G)}{ops:List Oper}{un:List Nat}{St:Nat->List G->Af}
theorem z0 {α β:Sort _}{a:α}{b:β}:a=a/\b=b:=⟨rfl,rfl⟩
theorem ZA {i:Nat}{o:Oper}{rest:List Oper}{k:List (BL G)->Prop}{v:V}(h:∀γ:Nat->G,CF ops F0 ps acc.reverse γ (A9 ps i).1 (A9 ps i).2.1 λF=>GJ ops P nt o F S λr S'=>Vp v ((A9 ps i).2.2.map γ) r/\S'=S)(t:H4 ops F0 ps [] (Bo S) P nt (i+1) rest (Vp v::acc).reverse k):H4 ops F0 ps [] (Bo S) P nt i (o::rest) acc.reverse k:=Zp (Vp v) (Aeb h) t
end
theorem J {α:Sort _}{a:α}:a=a:=rfl
section
variable {P : Program} {nt : Nat} {F : Fr} {S : Af} {ops l : List Oper} {Q : Fr → Af → Prop} {d : Option Tmp} {ty : TypeId} {pos : String} {af : Array Edge} {gd : Option (Nat × Bool)}
theorem ca {x : Operand} {v : V} (hx : F.ev x = some v) (h : Jn P nt ops l (F.put d (some v)) S Q) (hw : En ops F ⟨d, .move x, ty, pos, af, gd⟩ = some true := by rfl) (hd : JM nt d = true := by rfl) : Jn P nt ops (⟨d, .move x, ty, pos, af, gd⟩ :: l) F S Q := KL hw hd (AeD hx h)
theorem cb {x : Operand} {v : V} {n : Fr → Af → Prop} {R : Exit → Fr → Af → Prop} (hx : F.ev x = some v) (h : n (F.put d (some v)) S) (hw : En ops F ⟨d, .assign x, ty, pos, af, gd⟩ = some true := by rfl) (hd : JM nt d = true := by rfl) : Jn P nt ops [⟨d, .assign x, ty, pos, af, gd⟩] F S (Ra n R .normal) := KL hw hd (Rc hx (Q9 (ZT h)))
theorem ci {x : Operand} {v : V} (hx : F.ev x = some v) (h : Jn P nt ops l (F.put d (some v)) S Q) (hw : En ops F ⟨d, .assign x, ty, pos, af, gd⟩ = some true := by rfl) (hd : JM nt d = true := by rfl) : Jn P nt ops (⟨d, .assign x, ty, pos, af, gd⟩ :: l) F S Q := KL hw hd (Rc hx h)
theorem cd {id : Nat} {y : Code} {R : Exit → Fr → Af → Prop} (h : Jn P nt l l F S (Ra (VW P nt y R) R .normal)) : VW P nt (.seq (.region id l.toArray false) y) R F S := TB (Oz h)
theorem ce {op : BinOp} {t t2 : TypeId} {x y : Operand} {a b : Int} {r : V} (hx : F.ev x = some (.int a)) (hy : F.ev y = some (.int b)) (hr : ZP op a b = some r) (h : Jn P nt ops l (F.put d (some r)) S Q) (hw : En ops F ⟨d, .binOp op t x y t2, ty, pos, af, gd⟩ = some true := by rfl) (hd : JM nt d = true := by rfl) : Jn P nt ops (⟨d, .binOp op t x y t2, ty, pos, af, gd⟩ :: l) F S Q := KL hw hd (Vl hx hy hr h)
theorem cj {op : BinOp} {t t2 : TypeId} {x y : Operand} {a b : Int} {r : V} {n : Fr → Af → Prop} {R : Exit → Fr → Af → Prop} (hx : F.ev x = some (.int a)) (hy : F.ev y = some (.int b)) (hr : ZP op a b = some r) (h : n (F.put d (some r)) S) (hw : En ops F ⟨d, .binOp op t x y t2, ty, pos, af, gd⟩ = some true := by rfl) (hd : JM nt d = true := by rfl) : Jn P nt ops [⟨d, .binOp op t x y t2, ty, pos, af, gd⟩] F S (Ra n R .normal) := KL hw hd (Vl hx hy hr (Q9 (ZT h)))
theorem cf {s f off sz : Nat} {agg : Bool} {x : Operand} {g o : Nat} (ht : AR P s f off sz agg) (hx : F.ev x = some (.ptr g o)) (h : Jn P nt ops l (F.put d (some (.ptr g (o + off)))) S Q) (hw : En ops F ⟨d, .fieldAddr s x f, ty, pos, af, gd⟩ = some true := by rfl) (hd : JM nt d = true := by rfl) : Jn P nt ops (⟨d, .fieldAddr s x f, ty, pos, af, gd⟩ :: l) F S Q := KL hw hd (Rd ht hx h)
theorem cg (i : Nat) {t : TypeId} {x : Operand} {g o : Nat} {T : TypeId} {ls : List V} {v : V} (ht : BI P t) (hx : F.ev x = some (.ptr g o)) (hS : S[i]? = some (.cells g T ls)) (hv : ls[o]? = some v) (h : Jn P nt ops l (F.put d (some v)) S Q) (hw : En ops F ⟨d, .load t x, ty, pos, af, gd⟩ = some true := by rfl) (hd : JM nt d = true := by rfl) : Jn P nt ops (⟨d, .load t x, ty, pos, af, gd⟩ :: l) F S Q := KL hw hd (ZQ i ht hx hS hv h)
theorem cm {t t2 : TypeId} {x y : Operand} {a b : Int} (hx : F.ev x = some (.int a)) (hy : F.ev y = some (.int b)) (h : Jn P nt ops l (F.put d (some (.int (a + b)))) S Q) (hb : -9223372036854775808 ≤ a + b ∧ a + b ≤ 9223372036854775807 := by omega) (hw : En ops F ⟨d, .binOp .add t x y t2, ty, pos, af, gd⟩ = some true := by rfl) (hd : JM nt d = true := by rfl) : Jn P nt ops (⟨d, .binOp .add t x y t2, ty, pos, af, gd⟩ :: l) F S Q := KL hw hd (AfR hx hy hb h)
theorem cn {n : Fr → Af → Prop} {R : Exit → Fr → Af → Prop} (h : n F S) : Jn P nt ops [] F S (Ra n R .normal) := Q9 (ZT h)
theorem co {n : Fr → Af → Prop} {R : Exit → Fr → Af → Prop} (h : n F S) : VW P nt .skip (Ra n R) F S := Vk (ZT h)
end
theorem cv {α0:Sort _}{a0:α0} {α1:Sort _}{a1:α1} {α2:Sort _}{a2:α2} {α3:Sort _}{a3:α3}:a0=a0∧a1=a1∧a2=a2∧a3=a3∧True:=⟨rfl,rfl,rfl,rfl,trivial⟩
theorem cp {α0:Sort _}{a0:α0} {α1:Sort _}{a1:α1} {α2:Sort _}{a2:α2} {α3:Sort _}{a3:α3} {α4:Sort _}{a4:α4}:a0=a0∧a1=a1∧a2=a2∧a3=a3∧a4=a4∧True:=⟨rfl,rfl,rfl,rfl,rfl,trivial⟩
theorem cr {α0:Sort _}{a0:α0} {α1:Sort _}{a1:α1} {α2:Sort _}{a2:α2} {α3:Sort _}{a3:α3} {α4:Sort _}{a4:α4} {α5:Sort _}{a5:α5}:a0=a0∧a1=a1∧a2=a2∧a3=a3∧a4=a4∧a5=a5∧True:=⟨rfl,rfl,rfl,rfl,rfl,rfl,trivial⟩
theorem cw {α0:Sort _}{a0:α0} {α1:Sort _}{a1:α1} {α2:Sort _}{a2:α2} {α3:Sort _}{a3:α3} {α4:Sort _}{a4:α4} {α5:Sort _}{a5:α5} {α6:Sort _}{a6:α6}:a0=a0∧a1=a1∧a2=a2∧a3=a3∧a4=a4∧a5=a5∧a6=a6∧True:=⟨rfl,rfl,rfl,rfl,rfl,rfl,rfl,trivial⟩
theorem ct {α0:Sort _}{a0:α0} {α1:Sort _}{a1:α1} {α2:Sort _}{a2:α2} {α3:Sort _}{a3:α3} {α4:Sort _}{a4:α4} {α5:Sort _}{a5:α5} {α6:Sort _}{a6:α6} {α7:Sort _}{a7:α7} {α8:Sort _}{a8:α8}:a0=a0∧a1=a1∧a2=a2∧a3=a3∧a4=a4∧a5=a5∧a6=a6∧a7=a7∧a8=a8∧True:=⟨rfl,rfl,rfl,rfl,rfl,rfl,rfl,rfl,rfl,trivial⟩
theorem cq {α0:Sort _}{a0:α0} {α1:Sort _}{a1:α1} {α2:Sort _}{a2:α2} {α3:Sort _}{a3:α3} {α4:Sort _}{a4:α4} {α5:Sort _}{a5:α5} {α6:Sort _}{a6:α6} {α7:Sort _}{a7:α7} {α8:Sort _}{a8:α8} {α9:Sort _}{a9:α9}:a0=a0∧a1=a1∧a2=a2∧a3=a3∧a4=a4∧a5=a5∧a6=a6∧a7=a7∧a8=a8∧a9=a9∧True:=⟨rfl,rfl,rfl,rfl,rfl,rfl,rfl,rfl,rfl,rfl,trivial⟩
theorem cy {α0:Sort _}{a0:α0} {α1:Sort _}{a1:α1} {α2:Sort _}{a2:α2} {α3:Sort _}{a3:α3} {α4:Sort _}{a4:α4} {α5:Sort _}{a5:α5} {α6:Sort _}{a6:α6} {α7:Sort _}{a7:α7} {α8:Sort _}{a8:α8} {α9:Sort _}{a9:α9} {α10:Sort _}{a10:α10}:a0=a0∧a1=a1∧a2=a2∧a3=a3∧a4=a4∧a5=a5∧a6=a6∧a7=a7∧a8=a8∧a9=a9∧a10=a10∧True:=⟨rfl,rfl,rfl,rfl,rfl,rfl,rfl,rfl,rfl,rfl,rfl,trivial⟩
theorem cx {α0:Sort _}{a0:α0} {α1:Sort _}{a1:α1} {α2:Sort _}{a2:α2} {α3:Sort _}{a3:α3} {α4:Sort _}{a4:α4} {α5:Sort _}{a5:α5} {α6:Sort _}{a6:α6} {α7:Sort _}{a7:α7} {α8:Sort _}{a8:α8} {α9:Sort _}{a9:α9} {α10:Sort _}{a10:α10} {α11:Sort _}{a11:α11}:a0=a0∧a1=a1∧a2=a2∧a3=a3∧a4=a4∧a5=a5∧a6=a6∧a7=a7∧a8=a8∧a9=a9∧a10=a10∧a11=a11∧True:=⟨rfl,rfl,rfl,rfl,rfl,rfl,rfl,rfl,rfl,rfl,rfl,rfl,trivial⟩
theorem cu {α0:Sort _}{a0:α0} {α1:Sort _}{a1:α1} {α2:Sort _}{a2:α2} {α3:Sort _}{a3:α3} {α4:Sort _}{a4:α4} {α5:Sort _}{a5:α5} {α6:Sort _}{a6:α6} {α7:Sort _}{a7:α7} {α8:Sort _}{a8:α8} {α9:Sort _}{a9:α9} {α10:Sort _}{a10:α10} {α11:Sort _}{a11:α11} {α12:Sort _}{a12:α12}:a0=a0∧a1=a1∧a2=a2∧a3=a3∧a4=a4∧a5=a5∧a6=a6∧a7=a7∧a8=a8∧a9=a9∧a10=a10∧a11=a11∧a12=a12∧True:=⟨rfl,rfl,rfl,rfl,rfl,rfl,rfl,rfl,rfl,rfl,rfl,rfl,rfl,trivial⟩
end Go.VL
