import Derived.Test.YthlflmmnankhhaaGreatX1
set_option maxRecDepth 100000
set_option maxHeartbeats 4000000
open Go.VL.Drops renaming keep → Dk, drop → Dd
set_option linter.all false
open List renaming all_cons → Ya, drop_length → Yb, all_nil → Yc, perm_append_comm → Yd, exists_cons_of_ne_nil → Ye
open Nat renaming zero_le → Yf
namespace Go.Proofs.YthlflmmnankhhaaGreat.X2
open Go.VL Go.SM Go.Proofs.YthlflmmnankhhaaGreat X1 VT Tryz
theorem QU (k:Nat):(k:Int).tdiv 64=((k / 64:Nat):Int):=rfl
theorem AbX (k:Nat):(k:Int).tmod 64=((k % 64:Nat):Int):=rfl
theorem Tn (s:BN){k:Nat}(hk:k<128):([V.u64 s.1,V.u64 s.2]:List V)[0+((k / 64:Nat):Int).toNat]? =some (V.u64 (s.word k)):=by
  have h:k / 64=0\/k / 64=1:=by omega
  unfold BN.word;rcases h with h | h <;> rw [h] <;> rfl
theorem AdF {k:Nat}(hk:k<128)(a b:V):Nat.ble (0+((k / 64:Nat):Int).toNat+1) ([a,b]:List V).length=true:=by
  have h:k / 64=0\/k / 64=1:=by omega
  rcases h with h | h <;> rw [h] <;> rfl
theorem AdG (s:BN){k:Nat}(hk:k<128):V.agg ((([V.u64 s.1,V.u64 s.2].set (0+((k / 64:Nat):Int).toNat) (V.u64 (s.word k ||| 1#64 <<< (k % 64)))).drop 0).take 2)=Ec (s.with k):=by
  have h:k / 64=0\/k / 64=1:=by omega
  unfold BN.word BN.with Ec;rcases h with h | h <;> rw [h] <;> rfl
theorem PQ (s:BN)(k:Nat)(hk:k<128):AP prog 81 [Ec s, .int k] (.bool (s.has k)):=by
 refine Al (nt:=14) func81 J J J ?_;refine cd<|Zc<|Zc2 J J<|λ g2=>(cb J<|cd<|ca J<|Zc<|Zu2 (ZD J J (by decide) (by rw [QU];omega) ⟨J,J⟩) (V.le.of_eq<|congrArg V.int<|QU k)<|Zc<|AK underlying134 se134 J J (by omega) (by omega)<|Zc<|Zu 0 ty126 J J (Tn s hk)<|ca J<|Zc<|Zu2 (ZB J J (by omega) ⟨J,J⟩) (V.le.of_eq<|congrArg V.int<|AbX k)<|Zc<|Acn (n:=(k % 64)) J J (Nat.mod_lt _ (by decide))<|Zc<|P1 (b:=1#64) J J<|Zc<|Aez (b:=1#64) J J<|cb J<|Zf1<|Zg1 J (.tmp J) ?_);rfl
theorem To (s:BN)(k:Int)(h0:0<=k)(h1:k<128):AP prog 81 [Ec s, .int k] (.bool (s.has k.toNat)):=by
  obtain⟨n,rfl⟩:=Int.eq_ofNat_of_zero_le h0;exact PQ s n (by omega)
theorem QV (s:BN)(k:Nat)(hk:k<128):AP prog 100 [Ec s, .int k] (Ec (s.with k)):=by
 refine Al (nt:=15) func100 J J J ?_;refine cd<|Zc<|Zc2 J J<|λ g2=>(Zc<|Zb2 zr134 _ J J<|λ g4=>(cn<|Zb<|Ap (G:=Unit) [([],[1],[]),([0],[5],[]),([1,0],[2,6],[]),([2,1,0],[7],[]),([],[1],[]),([4],[9],[]),([5,4],[10],[]),(dn 7,[8,11],[]),(dn 8,[2,6],[]),(dn 9,[13,12],[])] [9] (DH _ 1<|λ _=> .cells g2 134<|[V.u64 s.1,V.u64 s.2].set (0+((k / 64:Nat):Int).toNat)<|V.u64 (s.word k ||| 1#64 <<< (k % 64))) [] [5,6,7,8,9,10,11,12,13] J VT.mix<|Zp (Zm _) (Zo J J ⟨(λ γ=>Zf (λ _ h1=>Ze (Zn J (Zl h1 z0)))),trivial⟩)<|Zp (Zm _) (Zo J J ⟨(λ γ=>Zw 0 0 J (λ _ h5=>Ze (Zn J (Zu2 (ZD h5 J (by decide) (by rw [QU];omega) z0) (V.le.of_eq (congrArg V.int (QU k))) z0)))),trivial⟩)<|Zp (Zm _) (Zo J J ⟨(λ γ=>Zf (λ _ h2=>Zw 1 0 J (λ _ h6=>Ze (Zn J (AK underlying134 se134 h2 h6 (by omega) (by omega) z0))))),trivial⟩)<|Zp (Zm _) (Zo J J ⟨(λ γ=>Zw 2 0 J (λ _ h7=>Ze (Zn J (Zu 1 ty126 h7 J (Tn s hk) z0)))),trivial⟩)<|Zp (Zm _) (Zo J J ⟨(λ γ=>Zf (λ _ h1=>Ze (Zn J (Zl h1 z0)))),trivial⟩)<|Zp (Zm _) (Zo J J ⟨(λ γ=>Zw 4 0 J (λ _ h9=>Ze (Zn J (Zu2 (ZB h9 J (by omega) z0) (V.le.of_eq (congrArg V.int (AbX k))) z0)))),trivial⟩)<|Zp (Zm _) (Zo J J ⟨(λ γ=>Zw 5 0 J (λ _ h10=>Ze (Zn J (Acm (n:=(k % 64)) (a:=1#64) J h10 (Nat.mod_lt _ (by decide)) z0)))),trivial⟩)<|Zp (Zm _) (Zo J J ⟨(λ γ=>Zw 3 3 J (λ _ h8=>Zw 6 0 J (λ _ h11=>Ze (Zn J (Aey h8 h11 z0))))),trivial⟩)<|Zp (Zm _) (Zo J J ⟨(λ γ=>Zf (λ _ h2=>Zw 1 6 J (λ _ h6=>Ze (Zn J (AK underlying134 se134 h2 h6 (by omega) (by omega) z0))))),trivial⟩)<|Zp Za3 (Zn2 J<|λ γ=>Zw 8 0 J<|λ _ h13=>Zw 7 1 J<|λ _ h12=>Ze<|Zn J<|Zy 1 ty126 h13 h12 J J (AdF hk _ _) ⟨default,trivial,J⟩)<|Ak<|λ γ=>Ze<|Zi<|cd<|Zc<|Zu2 (Zv 1 ty134 J J (by rw [List.length_set];rfl) ⟨J,J⟩) (V.le.of_eq<|AdG s hk)<|Zc<|Zx 0 ty134 J J J J J<|cn<|Zf1<|Zg1 J (.agg (i:=0) ty134 J J J) ?_));rfl
theorem U3 (s:BN)(k:Int)(h0:0<=k)(h1:k<128):AP prog 100 [Ec s, .int k] (Ec (s.with k.toNat)):=by
  obtain⟨n,rfl⟩:=Int.eq_ofNat_of_zero_le h0;exact QV s n (by omega)
theorem AfA (s t:BN):AP prog 101 [Ec s,Ec t] (Ec (s.both t)):=by
 refine Al (nt:=16) func101 J J J ?_;refine cd<|Zc<|Zc2 J J<|λ g2=>(Zc<|Zc2 J J<|λ g3=>(Zc<|Zb2 zr134 _ J J<|λ g4=>(cn<|cd<|Zc<|AK underlying134 se134 J J (by omega) (by omega)<|cg 2 ty126 J J J<|Zc<|AK underlying134 se134 J J (by omega) (by omega)<|cg 1 ty126 J J J<|Zc<|P1 J J<|Zc<|AK underlying134 se134 J J (by omega) (by omega)<|cg 2 ty126 J J J<|Zc<|AK underlying134 se134 J J (by omega) (by omega)<|cg 1 ty126 J J J<|Zc<|P1 J J<|Zc<|Gh [0,1] [.tmp 9, .tmp 14] VT.at134 J J J J<|Zc<|Zx 0 ty134 J J J J J<|cn<|Zf1<|Zg1 J (.agg (i:=0) ty134 J J J) ?_)));rfl
theorem Tp (gc gm:Nat)(name:Int)(bs:List Aa)(v:Int)(p:Int×Int)(d:BB):AH prog 78 [.ptr gc 0, .int v,HD p] [.cells gc 91 [.int name,Ae bs, .raw (.map (some gm))], .map gm (Bb Bt (Hf d))] λr S'=>r= .int (By v p d).1/\S'= [.cells gc 91 [.int name,Ae bs, .raw (.map (some gm))], .map gm (Bb Bt (Hf (By v p d).2))]:=by
 refine AB ?_;have hr:=By.eq_def v p d;refine Al (nt:=28) func78 J J J ?_;refine cd<|Zc<|Zc2 J J<|λ g5=>(cb J<|Zb<|cd<|ca J<|Zc<|Zx1 [.tmp 9, .const (.int .i64 (0)), .const (.int .i64 (4095))] J J en24 (DD v _ _)<|Zc<|Zl2 J<|cn<|Zo1 J (λ h11=> ?_)<|λ h11=> ?_)
 .
  rw [if_pos h11] at hr;refine cd<|cb J<|Zf1<|Zd1<|Zg1 J (.tmp J) ?_;exact ⟨_,Dd (Zt2 _),by rw [hr],by rw [hr]⟩
 rw [if_neg (by rw [h11];decide)] at hr;refine co<|Zb<|cd<|ca J<|Zc<|Zv1 J<|cf fa91_1 J<|cg 1 ty89 J J J<|ca J<|Zc<|H1 2 (.agg zs131) (λ m=>⟨J,_,J,by simp [Go.VL.RepL,zs131,Rep]⟩) underlying89 (BA underlying3) zr131 J J J<|ca J<|Zc<|Zu2 (Zg2 J J ⟨J,J⟩) (V.le.of_eq<|Vs d v)<|Zc<|Zu2 (Zg2 J J ⟨J,J⟩) (V.le.of_eq<|congrArg V.bool<|OF d v)<|Zc<|Zb2 zr131 _ J J<|λ g7=>(Zc<|Zx 0 ty131 J J J J J<|cb J<|cd<|ca J<|cn<|Zr1 J (λ h21=> ?_)<|λ h21=> ?_)
 .
  rw [if_pos h21] at hr;refine cd<|cb J<|Zf1<|Zd1<|Zg1 J (.tmp J) ?_;exact ⟨_,Dd (Dd (Zt2 _)),by rw [hr],by rw [hr]⟩
 rw [if_neg (by rw [h21];decide)] at hr;have hn:Cc d v=none:=by simpa using h21
 refine co<|Zb<|Ap (G:=Unit) [([],[0],[]),([0],[22],[]),([1,0],[23],[]),([2,1,0],[24],[]),([],[1],[]),([],[5],[]),(dn 6,[25,26,27],[])] [6] (DH _ 3<|λ _=> .map gm<|Bb Bt<|Co (Hf d) v<|HD p) [] [22,23,24,25,26,27] J VT.mix<|Zp (Zm _) (Zo J J ⟨(λ γ=>Zf (λ _ h0=>Ze (Zn J (Zl h0 z0)))),trivial⟩)<|Zp (Zm _) (Zo J J ⟨(λ γ=>Zw 0 0 J (λ _ h22=>Ze (Zn J (Zv1 h22 z0)))),trivial⟩)<|Zp (Zm _) (Zo J J ⟨(λ γ=>Zw 1 0 J (λ _ h23=>Ze (Zn J (Zj fa91_1 h23 z0)))),trivial⟩)<|Zp (Zm _) (Zo J J ⟨(λ γ=>Zw 2 0 J (λ _ h24=>Ze (Zn J (Zu 2 ty89 h24 J J z0)))),trivial⟩)<|Zp (Zm _) (Zo J J ⟨(λ γ=>Zf (λ _ h1=>Ze (Zn J (Zl h1 z0)))),trivial⟩)<|Zp (Zm _) (Zo J J ⟨(λ γ=>Zf (λ _ h5=>Ze (Zn J (Zv 1 ty131 h5 J J z0)))),trivial⟩)<|Zp Za3 (Zn2 J<|λ γ=>Zw 3 2 J<|λ _ h25=>Zw 4 1 J<|λ _ h26=>Zw 5 0 J<|λ _ h27=>Ze<|Zn J<|BS 3 underlying89 (BA underlying3) h25 h26 h27 J ⟨default,trivial,J⟩)<|Ak<|λ γ=>Ze<|Zi<|cd<|cb J<|Zf1<|Zg1 J (.tmp J) ?_;exact ⟨_,Dd (Dd (Zt2 _)),by rw [hr],by rw [hr, <- OE v p hn];rfl⟩
theorem Tf (name:Int)(bs:List Aa)(t:BG):AP prog 46 [.agg [.int name,Ae bs],He t] (.int (HX bs t)):=by
 have hr:=HX.eq_def bs t;refine Al (nt:=78) func46 J J J ?_;refine cd<|Zc<|Zc2 J J<|λ g2=>(Zc<|Zc2 J J<|λ g3=>(cb J<|Zb<|Zs<|cd<|Zc<|Zv 0 ty38 J J J<|Zc<|Zx1 [.tmp 10] J J en76 (AdI t)<|Zc<|Zl2 J<|cb J<|Zo1 J (λ h9=> ?_)<|λ h9=> ?_))
 .
  rw [if_pos h9] at hr;refine cd<|cb J<|Zf1<|Za1<|Zd1<|Zg1 J (.tmp J) ?_;rw [hr]
 rw [if_neg (by rw [h9];decide)] at hr;refine cd<|cf fa38_3 J<|cg 0 ty32 J J J<|Zc<|Zd2 (n:=t.cases.length) underlying32 J (by simp)<|λ hl16=>(ce J J J<|cb J<|Zn1 J (λ h13=> ?_)<|λ h13=> ?_)
 .
  rw [if_pos h13] at hr;refine cd<|cb J<|Zf1<|Za1<|Zd1<|Zg1 J (.tmp J) ?_;rw [hr]
 rw [if_neg h13] at hr;refine cd<|cf fa38_0 J<|cg 0 ty3 J J J<|ce J J J<|ca J<|Zj2 (q:=22) J (λ hq22=> ?_)<|λ hq22=> ?_
 .
  refine Zc (Zj fa38_2 J ?_)<|Zy1 hq22;refine Zc (Zu 0 ty3 J J J ?_)<|Zy1 hq22;refine Zc (Zx1 [.tmp 24, .const (.int .i64 (1)), .const (.int .i64 (6))] J J en24 (DD _ _ _) ?_)<|Zy1 hq22;refine Zc (Zl2 J ?_)<|Zy1 hq22;refine Zc<|Zs1 J hq22 J<|cb J<|Zo1 J (λ h18=> ?_)<|λ h18=> ?_
  .
   rw [if_pos (by simp_all)] at hr;refine cd<|cb J<|Zf1<|Za1<|Zd1<|Zg1 J (.tmp J) ?_;rw [hr]
  rw [if_neg (by simp_all)] at hr;refine Zi1<|Zb1<|Zi<|Zb<|cd<|cf fa38_3 J<|cg 0 ty32 J J J<|Zc<|Zd2 (n:=t.cases.length) underlying32 J (by simp)<|λ hl30=>(ca J<|cn<|Zs<|Zi2 (ι:=Nat) (λ k=>t.cases.length - k) (λ k=> [(2,some (.ptr g2 0)),(3,some (.ptr g3 0)),(29,some (Ad t.cases)),(30,some (.int t.cases.length)),(31,some (.int k))]) (λ k=> [.cells g3 38 [.int t.kind, .int t.arg, .int t.n,Ad t.cases,AC t.to], .cells g2 31 [.int name,Ae bs]]) (λ k=>k<=t.cases.length/\BM (t.cases.take k) (t.cases.drop k)=BM [] t.cases) 0 ⟨Yf _,by simp⟩ cp (Dk<|Dk<|Zt2 _) ?_);rintro k hA;change k<=t.cases.length/\BM (t.cases.take k) (t.cases.drop k)=BM [] t.cases at hA;obtain ⟨hk,hq⟩:=hA;refine cd<|cj J J J<|Zb<|Zn1 J (λ h32=> ?_)<|λ h32=> ?_
  .
   obtain⟨c,hc⟩:=Ab t.cases k h32;refine co<|Zb<|Zs<|cd<|ca J<|Zc<|Zz (el:=V.int c) sl32 J J (by omega) (Bn hc)<|λ a34=>(Zc<|Zz1 ty3 J J<|ci J<|cb J<|Zs<|cd<|ca J<|Zc<|Zx1 [.tmp 37] J J en77 (N5 _)<|Zc<|Zl2 J<|cb J<|Zo1 J (λ h36=> ?_)<|λ h36=> ?_)
   .
    have hce:BM [] t.cases=4:=by rw [<- hq,Ag hc,BM,if_pos h36]
    rw [if_pos (by rw [hce];decide),hce] at hr;refine cd<|cb J<|Zf1<|Za1<|Za1<|Zd1<|Zd1<|Za1<|Zd1<|Zg1 J (.tmp J) ?_;rw [hr]
   refine cd<|cf fa38_3 J<|cg 0 ty32 J J J<|ca J<|Zc<|Zu2 (G8 sl32 J J (by omega) (by simp;omega) ⟨J,J⟩) (V.le.of_eq (v':=Ad (t.cases.take k)) (by rw [Ad,List.map_take];rfl))<|ca J<|Zc<|Zx1 [.tmp 44, .tmp 45] J J en44 (Ft (t.cases.take k) none c)<|cb J<|Zr1 J (λ h40=> ?_)<|λ h40=> ?_
   .
    have hce:BM [] t.cases=7:=by rw [<- hq,Ag hc,BM,if_neg (by rw [h36];decide),if_pos h40]
    rw [if_pos (by rw [hce];decide),hce] at hr;refine cd<|cb J<|Zf1<|Za1<|Za1<|Zd1<|Zd1<|Za1<|Zd1<|Zg1 J (.tmp J) ?_;rw [hr]
   refine Zi1<|Zb1<|Zb1<|Zi<|Zd<|cm J J<|ca J<|Za<|Zi ?_;exact ⟨k+1,(by (try simp only []);omega),⟨by omega,by rw [<- hq,Ag hc,BM,if_neg (by rw [h36];decide),if_neg (by rw [h40];decide),AD hc]⟩,cp,(Dk (Dk (Zt2 _)))⟩
  have hke:k=t.cases.length:=by omega
  subst hke;have hce:BM [] t.cases=0:=by rw [<- hq,Yb,BM]
  rw [if_neg (by rw [hce];decide)] at hr;refine Zt<|Ze1<|Ze1<|Zc1<|Zi<|Zb<|cd<|cf fa38_4 J<|cg 0 ty36 J J J<|Zc<|Zd2 (n:=t.to.length) underlying36 J (by simp)<|λ hl50=>(ca J<|cn<|Zs<|Zi2 (ι:=Nat) (λ k=>t.to.length - k) (λ k=> [(2,some (.ptr g2 0)),(3,some (.ptr g3 0)),(49,some (AC t.to)),(50,some (.int t.to.length)),(51,some (.int k))]) (λ k=> [.cells g3 38 [.int t.kind, .int t.arg, .int t.n,Ad t.cases,AC t.to], .cells g2 31 [.int name,Ae bs]]) (λ k=>k<=t.to.length/\Cx bs (t.to.drop k)=Cx bs t.to) 0 ⟨Yf _,J⟩ cp (Dk<|Dk<|Zt2 _) ?_);rintro k hA;change k<=t.to.length/\Cx bs (t.to.drop k)=Cx bs t.to at hA;obtain ⟨hk,hq⟩:=hA;refine cd<|cj J J J<|Zb<|Zn1 J (λ h52=> ?_)<|λ h52=> ?_
  .
   obtain⟨e,he⟩:=Ab t.to k h52;refine co<|Zb<|Zs<|cd<|Zc<|Zz (el:=AA e) sl36 J J (by omega) (Aq _ he)<|λ a53=>(Zc<|Za2 ty64 J J<|Zc<|Zb2 zr64 _ J J<|λ g8=>(Zc<|Zx 0 ty64 J J J J J<|cn<|Zs<|cd<|cf fa64_0 J<|cg 0 ty3 J J J<|cf fa31_1 J<|cg 2 ty29 J J J<|Zc<|Zd2 (n:=bs.length) underlying29 J (by simp)<|λ hl60=>(Zc<|Zk2 J J (by omega)<|Zc<|Zx1 [.tmp 57, .const (.int .i64 (1)), .tmp 61] J J en24 (DD _ _ _)<|Zc<|Zl2 J<|cb J<|Zo1 J (λ h55=> ?_)<|λ h55=> ?_)))
   .
    rw [<- hq,Ag he,Cx,if_pos h55] at hr;refine cd<|cb J<|Zf1<|Za1<|Za1<|Zd1<|Zd1<|Za1<|Zd1<|Zg1 J (.tmp J) ?_;rw [hr]
   have hw:=C0.1 h55;obtain ⟨b,hb⟩:=Ab bs e.block.toNat (by omega);have hp:AI bs e.block=b.params:=by rw [AI,hb];rfl
   refine Zb<|Ap (G:=Unit) [([],[8],[]),([0],[65],[]),([1,0],[66],[]),([],[2],[]),([3],[68],[]),([],[8],[]),([5],[70],[]),([6,5,4,3],[69,71],[]),([7,6,5,4,3],[72],[]),([8,7,6,5,4,3],[73],[]),([9,8,7,6,5,4,3],[74],[]),(dn 11,[67,75],[]),(dn 12,[76],[])] [] (Bo _) [64] [64,65,66,67,68,69,70,71,72,73,74,75,76] J VT.mix<|ZA (λ γ=>Zf<|λ _ h8=>Ze<|Zn J<|Zj fa64_1 h8 z0)<|ZA (λ γ=>Zw 0 0 J<|λ _ h65=>Ze<|Zn J<|Zu 0 ty32 h65 J J z0)<|ZA (λ γ=>Zw 1 0 J<|λ _ h66=>Ze<|Zn J<|Zd2 (n:=e.args.length) underlying32 h66 (by simp)<|λ hl67=>z0)<|ZA (λ γ=>Zf<|λ _ h2=>Ze<|Zn J<|Zj fa31_1 h2 z0)<|ZA (λ γ=>Zw 3 0 J<|λ _ h68=>Ze<|Zn J<|Zu 2 ty29 h68 J J z0)<|ZA (λ γ=>Zf<|λ _ h8=>Ze<|Zn J<|Zj fa64_0 h8 z0)<|ZA (λ γ=>Zw 5 0 J<|λ _ h70=>Ze<|Zn J<|Zu 0 ty3 h70 J J z0)<|Zp (Zb3 _) (Zq<|λ γ=>Zw 4 2 J<|λ _ h69=>Zw 6 0 J<|λ _ h71=>Ze<|Zn J<|Zz (el:=An b) sl29 h69 h71 (by omega) (Aq _ hb)<|λ a72=>⟨⟨_,J⟩,J⟩)<|Zp (Zb3 _) (Zq<|λ γ=>Zw 7 0 J<|λ _ h72=>Ze<|Zc3 h72<|λ a_72 e72=>Zn J<|Zw1 fa40_0 e72 J ⟨⟨_,J⟩,J⟩)<|ZA (λ γ=>Zw 8 0 J<|λ _ h73=>Ze<|Zc3 h73<|λ a_73 e73=>Zn J<|Zz1 ty32 e73 J z0)<|ZA (λ γ=>Zw 9 0 J<|λ _ h74=>Ze<|Zn J<|Zd2 (n:=b.params.length) underlying32 h74 (by simp)<|λ hl75=>z0)<|ZA (λ γ=>Zw 2 8 J<|λ _ h67=>Zw 10 0 J<|λ _ h75=>Ze<|Zn J<|Zj1 h67 h75 J z0)<|ZA (λ γ=>Zw 11 0 J<|λ _ h76=>Ze<|Zn J<|Zk h76 z0)<|Ak<|λ γ=>Zw 12 0 J<|λ r64 h64=>Ze ?_;have e64:r64=some _:=h64;subst e64;clear h64;refine Zi<|Zm1 J (λ h64=> ?_)<|λ h64=> ?_
   .
    rw [<- hq,Ag he,Cx,if_neg (by rw [h55];decide),if_pos (by rw [hp];omega)] at hr;refine cd<|cb J<|Zf1<|Za1<|Za1<|Zd1<|Zd1<|Za1<|Zd1<|Zg1 J (.tmp J) ?_;rw [hr]
   refine Zi1<|Zb1<|Zb1<|Zi<|Zd<|cm J J<|ca J<|Za<|Zi ?_;exact ⟨k+1,(by (try simp only []);omega),⟨by omega,by rw [<- hq,Ag he,Cx,if_neg (by rw [h55];decide),if_neg (by rw [hp];omega)]⟩,cp,(Dd (Dk (Dk (Zt2 _))))⟩
  have hke:k=t.to.length:=by omega
  subst hke;rw [Yb,Cx] at hq;rw [<- hq] at hr;refine Zt<|Ze1<|Ze1<|Zc1<|Zi<|cd<|cb J<|Zf1<|Zg1 J (.tmp J) ?_;rw [hr]
 refine Zk1 hq22<|Zk1 hq22<|Zk1 hq22<|Zk1 hq22<|Zc<|Zt1 J hq22 J<|cb J<|Zq1 J J ?_;rw [if_neg (by simp_all)] at hr;refine Zi1<|Zb1<|Zi<|Zb<|cd<|cf fa38_3 J<|cg 0 ty32 J J J<|Zc<|Zd2 (n:=t.cases.length) underlying32 J (by simp)<|λ hl30=>(ca J<|cn<|Zs<|Zi2 (ι:=Nat) (λ k=>t.cases.length - k) (λ k=> [(2,some (.ptr g2 0)),(3,some (.ptr g3 0)),(29,some (Ad t.cases)),(30,some (.int t.cases.length)),(31,some (.int k))]) (λ k=> [.cells g3 38 [.int t.kind, .int t.arg, .int t.n,Ad t.cases,AC t.to], .cells g2 31 [.int name,Ae bs]]) (λ k=>k<=t.cases.length/\BM (t.cases.take k) (t.cases.drop k)=BM [] t.cases) 0 ⟨Yf _,by simp⟩ cp (Dk<|Dk<|Zt2 _) ?_);rintro k hA;change k<=t.cases.length/\BM (t.cases.take k) (t.cases.drop k)=BM [] t.cases at hA;obtain ⟨hk,hq⟩:=hA;refine cd<|cj J J J<|Zb<|Zn1 J (λ h32=> ?_)<|λ h32=> ?_
 .
  obtain⟨c,hc⟩:=Ab t.cases k h32;refine co<|Zb<|Zs<|cd<|ca J<|Zc<|Zz (el:=V.int c) sl32 J J (by omega) (Bn hc)<|λ a34=>(Zc<|Zz1 ty3 J J<|ci J<|cb J<|Zs<|cd<|ca J<|Zc<|Zx1 [.tmp 37] J J en77 (N5 _)<|Zc<|Zl2 J<|cb J<|Zo1 J (λ h36=> ?_)<|λ h36=> ?_)
  .
   have hce:BM [] t.cases=4:=by rw [<- hq,Ag hc,BM,if_pos h36]
   rw [if_pos (by rw [hce];decide),hce] at hr;refine cd<|cb J<|Zf1<|Za1<|Za1<|Zd1<|Zd1<|Za1<|Zd1<|Zg1 J (.tmp J) ?_;rw [hr]
  refine cd<|cf fa38_3 J<|cg 0 ty32 J J J<|ca J<|Zc<|Zu2 (G8 sl32 J J (by omega) (by simp;omega) ⟨J,J⟩) (V.le.of_eq (v':=Ad (t.cases.take k)) (by rw [Ad,List.map_take];rfl))<|ca J<|Zc<|Zx1 [.tmp 44, .tmp 45] J J en44 (Ft (t.cases.take k) none c)<|cb J<|Zr1 J (λ h40=> ?_)<|λ h40=> ?_
  .
   have hce:BM [] t.cases=7:=by rw [<- hq,Ag hc,BM,if_neg (by rw [h36];decide),if_pos h40]
   rw [if_pos (by rw [hce];decide),hce] at hr;refine cd<|cb J<|Zf1<|Za1<|Za1<|Zd1<|Zd1<|Za1<|Zd1<|Zg1 J (.tmp J) ?_;rw [hr]
  refine Zi1<|Zb1<|Zb1<|Zi<|Zd<|cm J J<|ca J<|Za<|Zi ?_;exact ⟨k+1,(by (try simp only []);omega),⟨by omega,by rw [<- hq,Ag hc,BM,if_neg (by rw [h36];decide),if_neg (by rw [h40];decide),AD hc]⟩,cp,(Dk (Dk (Zt2 _)))⟩
 have hke:k=t.cases.length:=by omega
 subst hke;have hce:BM [] t.cases=0:=by rw [<- hq,Yb,BM]
 rw [if_neg (by rw [hce];decide)] at hr;refine Zt<|Ze1<|Ze1<|Zc1<|Zi<|Zb<|cd<|cf fa38_4 J<|cg 0 ty36 J J J<|Zc<|Zd2 (n:=t.to.length) underlying36 J (by simp)<|λ hl50=>(ca J<|cn<|Zs<|Zi2 (ι:=Nat) (λ k=>t.to.length - k) (λ k=> [(2,some (.ptr g2 0)),(3,some (.ptr g3 0)),(49,some (AC t.to)),(50,some (.int t.to.length)),(51,some (.int k))]) (λ k=> [.cells g3 38 [.int t.kind, .int t.arg, .int t.n,Ad t.cases,AC t.to], .cells g2 31 [.int name,Ae bs]]) (λ k=>k<=t.to.length/\Cx bs (t.to.drop k)=Cx bs t.to) 0 ⟨Yf _,J⟩ cp (Dk<|Dk<|Zt2 _) ?_);rintro k hA;change k<=t.to.length/\Cx bs (t.to.drop k)=Cx bs t.to at hA;obtain ⟨hk,hq⟩:=hA;refine cd<|cj J J J<|Zb<|Zn1 J (λ h52=> ?_)<|λ h52=> ?_
 .
  obtain⟨e,he⟩:=Ab t.to k h52;refine co<|Zb<|Zs<|cd<|Zc<|Zz (el:=AA e) sl36 J J (by omega) (Aq _ he)<|λ a53=>(Zc<|Za2 ty64 J J<|Zc<|Zb2 zr64 _ J J<|λ g8=>(Zc<|Zx 0 ty64 J J J J J<|cn<|Zs<|cd<|cf fa64_0 J<|cg 0 ty3 J J J<|cf fa31_1 J<|cg 2 ty29 J J J<|Zc<|Zd2 (n:=bs.length) underlying29 J (by simp)<|λ hl60=>(Zc<|Zk2 J J (by omega)<|Zc<|Zx1 [.tmp 57, .const (.int .i64 (1)), .tmp 61] J J en24 (DD _ _ _)<|Zc<|Zl2 J<|cb J<|Zo1 J (λ h55=> ?_)<|λ h55=> ?_)))
  .
   rw [<- hq,Ag he,Cx,if_pos h55] at hr;refine cd<|cb J<|Zf1<|Za1<|Za1<|Zd1<|Zd1<|Za1<|Zd1<|Zg1 J (.tmp J) ?_;rw [hr]
  have hw:=C0.1 h55;obtain ⟨b,hb⟩:=Ab bs e.block.toNat (by omega);have hp:AI bs e.block=b.params:=by rw [AI,hb];rfl
  refine Zb<|Ap (G:=Unit) [([],[8],[]),([0],[65],[]),([1,0],[66],[]),([],[2],[]),([3],[68],[]),([],[8],[]),([5],[70],[]),([6,5,4,3],[69,71],[]),([7,6,5,4,3],[72],[]),([8,7,6,5,4,3],[73],[]),([9,8,7,6,5,4,3],[74],[]),(dn 11,[67,75],[]),(dn 12,[76],[])] [] (Bo _) [64] [64,65,66,67,68,69,70,71,72,73,74,75,76] J VT.mix<|ZA (λ γ=>Zf<|λ _ h8=>Ze<|Zn J<|Zj fa64_1 h8 z0)<|ZA (λ γ=>Zw 0 0 J<|λ _ h65=>Ze<|Zn J<|Zu 0 ty32 h65 J J z0)<|ZA (λ γ=>Zw 1 0 J<|λ _ h66=>Ze<|Zn J<|Zd2 (n:=e.args.length) underlying32 h66 (by simp)<|λ hl67=>z0)<|ZA (λ γ=>Zf<|λ _ h2=>Ze<|Zn J<|Zj fa31_1 h2 z0)<|ZA (λ γ=>Zw 3 0 J<|λ _ h68=>Ze<|Zn J<|Zu 2 ty29 h68 J J z0)<|ZA (λ γ=>Zf<|λ _ h8=>Ze<|Zn J<|Zj fa64_0 h8 z0)<|ZA (λ γ=>Zw 5 0 J<|λ _ h70=>Ze<|Zn J<|Zu 0 ty3 h70 J J z0)<|Zp (Zb3 _) (Zq<|λ γ=>Zw 4 2 J<|λ _ h69=>Zw 6 0 J<|λ _ h71=>Ze<|Zn J<|Zz (el:=An b) sl29 h69 h71 (by omega) (Aq _ hb)<|λ a72=>⟨⟨_,J⟩,J⟩)<|Zp (Zb3 _) (Zq<|λ γ=>Zw 7 0 J<|λ _ h72=>Ze<|Zc3 h72<|λ a_72 e72=>Zn J<|Zw1 fa40_0 e72 J ⟨⟨_,J⟩,J⟩)<|ZA (λ γ=>Zw 8 0 J<|λ _ h73=>Ze<|Zc3 h73<|λ a_73 e73=>Zn J<|Zz1 ty32 e73 J z0)<|ZA (λ γ=>Zw 9 0 J<|λ _ h74=>Ze<|Zn J<|Zd2 (n:=b.params.length) underlying32 h74 (by simp)<|λ hl75=>z0)<|ZA (λ γ=>Zw 2 8 J<|λ _ h67=>Zw 10 0 J<|λ _ h75=>Ze<|Zn J<|Zj1 h67 h75 J z0)<|ZA (λ γ=>Zw 11 0 J<|λ _ h76=>Ze<|Zn J<|Zk h76 z0)<|Ak<|λ γ=>Zw 12 0 J<|λ r64 h64=>Ze ?_;have e64:r64=some _:=h64;subst e64;clear h64;refine Zi<|Zm1 J (λ h64=> ?_)<|λ h64=> ?_
  .
   rw [<- hq,Ag he,Cx,if_neg (by rw [h55];decide),if_pos (by rw [hp];omega)] at hr;refine cd<|cb J<|Zf1<|Za1<|Za1<|Zd1<|Zd1<|Za1<|Zd1<|Zg1 J (.tmp J) ?_;rw [hr]
  refine Zi1<|Zb1<|Zb1<|Zi<|Zd<|cm J J<|ca J<|Za<|Zi ?_;exact ⟨k+1,(by (try simp only []);omega),⟨by omega,by rw [<- hq,Ag he,Cx,if_neg (by rw [h55];decide),if_neg (by rw [hp];omega)]⟩,cp,(Dd (Dk (Dk (Zt2 _))))⟩
 have hke:k=t.to.length:=by omega
 subst hke;rw [Yb,Cx] at hq;rw [<- hq] at hr;refine Zt<|Ze1<|Ze1<|Zc1<|Zi<|cd<|cb J<|Zf1<|Zg1 J (.tmp J) ?_;rw [hr]
theorem Wm (u:Ao)(i:AQ)(hN:i.op=13\/i.op=9->0<=i.n)(hB:∀f∈u.fns,f.qa≠ []):AP prog 23 [DT u,AL i] (.int (CG u i)):=by
 have hr:=CG.eq_def u i;refine Al (nt:=50) func23 J J J ?_;refine cd<|Zc<|Zc2 J J<|λ g2=>(Zc<|Zc2 J J<|λ g3=>(cb J<|Zb<|cd<|cf fa42_1 J<|cg 0 ty3 J J J<|ce J J J<|ca J<|Zj2 (q:=9) J (λ hq9=> ?_)<|λ hq9=> ?_))
 .
  refine Zc (Zj fa42_1 J ?_)<|Zy1 hq9;refine Zc (Zu 0 ty3 J J J ?_)<|Zy1 hq9;refine Zc (Zj1 J J J ?_)<|Zy1 hq9;refine Zc<|Zs1 J hq9 J<|cn<|Zm1 J (λ h13=> ?_)<|λ h13=> ?_
  .
   rw [if_pos (by simp_all)] at hr;refine cd<|cb J<|Zf1<|Zd1<|Zg1 J (.tmp J) ?_;rw [hr]
  rw [if_neg (by simp_all)] at hr;have hop:i.op=13\/i.op=9:=by by_cases h1:i.op=13 <;> by_cases h2:i.op=9 <;> simp_all
  have h0:=hN hop;refine co<|Zb<|cd<|cf fa42_2 J<|cg 0 ty3 J J J<|cf fa24_0 J<|cg 1 ty22 J J J<|Zc<|Zd2 (n:=u.fns.length) underlying22 J (by simp)<|λ hl18=>(cj J J J<|Zn1 J (λ h19=> ?_)<|λ h19=> ?_)
  .
   rw [if_pos h19] at hr;refine cd<|cb J<|Zf1<|Zd1<|Zg1 J (.tmp J) ?_;rw [hr]
  rw [if_neg h19] at hr;obtain ⟨f,hf⟩:=Ab u.fns i.n.toNat (by omega);obtain ⟨b,tl,hb⟩:=Ye (hB f (List.mem_of_getElem? hf));have hen:AT u i.n=b.params:=by rw [AT,hf];simp [AI,hb]
  rw [hen] at hr;refine co<|cd<|cf fa24_0 J<|cg 1 ty22 J J J<|cf fa42_2 J<|cg 0 ty3 J J J<|Zc<|Zz (el:=Bs f) sl22 J J (by omega) (Aq _ hf)<|λ a24=>(Zc<|Zw1 fa31_1 J J<|Zc<|Zz1 ty29 J J<|Zc<|Zz (el:=An b) sl29 J J (by omega) (by rw [hb];rfl)<|λ a27=>(Zc<|Zw1 fa40_0 J J<|Zc<|Zz1 ty32 J J<|Zc<|Zd2 (n:=b.params.length) underlying32 J (by simp)<|λ hl30=>(cb J<|Zb<|cd<|cf fa42_1 J<|cg 0 ty3 J J J<|ce J J J<|ca J<|Zj2 (q:=34) J (λ hq34=> ?_)<|λ hq34=> ?_)))
  .
   refine Zc (Zl J ?_)<|Zy1 hq34;refine Zc (Zj fa42_3 J ?_)<|Zy1 hq34;refine Zc (Zu 0 ty32 J J J ?_)<|Zy1 hq34;refine Zc (Zd2 (n:=i.args.length) underlying32 J (by simp)<|λ hl38=> ?_)<|Zy1 hq34;refine Zc (Zj1 J J J ?_)<|Zy1 hq34;refine Zc<|Zs1 J hq34 J<|ca J<|Zj2 (q:=41) J (λ hq41=> ?_)<|λ hq41=> ?_
   .
    refine Zk0 hq41<|Zk0 hq41<|Zk0 hq41<|Zk0 hq41<|Zh (.inr ⟨_,_,45,J,J,J⟩) J<|Zh (.inr ⟨_,_,45,J,J,J⟩) J<|Zk0 hq41<|Zc<|Zs1 J hq41 J<|cn<|Zp1 J J ?_;rw [if_pos (by first | (simp_all;done) | (simp_all;omega))] at hr;refine cd<|cb J<|Zf1<|Zd1<|Zg1 J (.tmp J) ?_;rw [hr]
   refine Zc (Zj fa42_1 J ?_)<|Zy0 hq41;refine Zc (Zu 0 ty3 J J J ?_)<|Zy0 hq41;refine Zc (Zj1 J J J ?_)<|Zy0 hq41;refine Zc (Zl J ?_)<|Zy0 hq41;refine Zj2 (q:=45) J (λ hq45=> ?_)<|λ hq45=> ?_
   .
    refine Zc (Zl J ?_)<|Zy1 hq45;refine Zc (Zj1 J J J ?_)<|Zy1 hq45;refine Zc (Zs1 J hq45 J ?_)<|Zy0 hq41;refine Zc<|Zt1 J hq41 J<|cn<|Zl1 J (λ h49=> ?_)<|λ h49=> ?_
    .
     rw [if_pos (by first | (simp_all;done) | (simp_all;omega))] at hr;refine cd<|cb J<|Zf1<|Zd1<|Zg1 J (.tmp J) ?_;rw [hr]
    rw [if_neg (by first | (simp_all;done) | (simp_all;omega))] at hr;refine co<|cd<|cb J<|Zf1<|Zg1 J (.tmp J) ?_;rw [hr]
   refine Zk1 hq45<|Zk1 hq45<|Zc (Zt1 J hq45 J ?_)<|Zy0 hq41;refine Zc<|Zt1 J hq41 J<|cn<|Zq1 J J ?_;rw [if_neg (by first | (simp_all;done) | (simp_all;omega))] at hr;refine co<|cd<|cb J<|Zf1<|Zg1 J (.tmp J) ?_;rw [hr]
  refine Zk1 hq34<|Zk1 hq34<|Zk1 hq34<|Zk1 hq34<|Zk1 hq34<|Zc<|Zt1 J hq34 J<|ca J<|Zc (Zj fa42_1 J ?_)<|Zy0 J;refine Zc (Zu 0 ty3 J J J ?_)<|Zy0 J;refine Zc (Zj1 J J J ?_)<|Zy0 J;refine Zc (Zl J ?_)<|Zy0 J;refine Zj2 (q:=45) J (λ hq45=> ?_)<|λ hq45=> ?_
  .
   refine Zc (Zl J ?_)<|Zy1 hq45;refine Zc (Zj1 J J J ?_)<|Zy1 hq45;refine Zc (Zs1 J hq45 J ?_)<|Zy0 J;refine Zc<|Zt1 J J J<|cn<|Zl1 J (λ h49=> ?_)<|λ h49=> ?_
   .
    rw [if_pos (by first | (simp_all;done) | (simp_all;omega))] at hr;refine cd<|cb J<|Zf1<|Zd1<|Zg1 J (.tmp J) ?_;rw [hr]
   rw [if_neg (by first | (simp_all;done) | (simp_all;omega))] at hr;refine co<|cd<|cb J<|Zf1<|Zg1 J (.tmp J) ?_;rw [hr]
  refine Zk1 hq45<|Zk1 hq45<|Zc (Zt1 J hq45 J ?_)<|Zy0 J;refine Zc<|Zt1 J J J<|cn<|Zq1 J J ?_;rw [if_neg (by first | (simp_all;done) | (simp_all;omega))] at hr;refine co<|cd<|cb J<|Zf1<|Zg1 J (.tmp J) ?_;rw [hr]
 refine Zk1 hq9<|Zk1 hq9<|Zk1 hq9<|Zc<|Zt1 J hq9 J<|cn<|Zq1 J J ?_;rw [if_neg (by simp_all)] at hr;have hop:i.op=13\/i.op=9:=by by_cases h1:i.op=13 <;> by_cases h2:i.op=9 <;> simp_all
 have h0:=hN hop;refine co<|Zb<|cd<|cf fa42_2 J<|cg 0 ty3 J J J<|cf fa24_0 J<|cg 1 ty22 J J J<|Zc<|Zd2 (n:=u.fns.length) underlying22 J (by simp)<|λ hl18=>(cj J J J<|Zn1 J (λ h19=> ?_)<|λ h19=> ?_)
 .
  rw [if_pos h19] at hr;refine cd<|cb J<|Zf1<|Zd1<|Zg1 J (.tmp J) ?_;rw [hr]
 rw [if_neg h19] at hr;obtain ⟨f,hf⟩:=Ab u.fns i.n.toNat (by omega);obtain ⟨b,tl,hb⟩:=Ye (hB f (List.mem_of_getElem? hf));have hen:AT u i.n=b.params:=by rw [AT,hf];simp [AI,hb]
 rw [hen] at hr;refine co<|cd<|cf fa24_0 J<|cg 1 ty22 J J J<|cf fa42_2 J<|cg 0 ty3 J J J<|Zc<|Zz (el:=Bs f) sl22 J J (by omega) (Aq _ hf)<|λ a24=>(Zc<|Zw1 fa31_1 J J<|Zc<|Zz1 ty29 J J<|Zc<|Zz (el:=An b) sl29 J J (by omega) (by rw [hb];rfl)<|λ a27=>(Zc<|Zw1 fa40_0 J J<|Zc<|Zz1 ty32 J J<|Zc<|Zd2 (n:=b.params.length) underlying32 J (by simp)<|λ hl30=>(cb J<|Zb<|cd<|cf fa42_1 J<|cg 0 ty3 J J J<|ce J J J<|ca J<|Zj2 (q:=34) J (λ hq34=> ?_)<|λ hq34=> ?_)))
 .
  refine Zc (Zl J ?_)<|Zy1 hq34;refine Zc (Zj fa42_3 J ?_)<|Zy1 hq34;refine Zc (Zu 0 ty32 J J J ?_)<|Zy1 hq34;refine Zc (Zd2 (n:=i.args.length) underlying32 J (by simp)<|λ hl38=> ?_)<|Zy1 hq34;refine Zc (Zj1 J J J ?_)<|Zy1 hq34;refine Zc<|Zs1 J hq34 J<|ca J<|Zj2 (q:=41) J (λ hq41=> ?_)<|λ hq41=> ?_
  .
   refine Zk0 hq41<|Zk0 hq41<|Zk0 hq41<|Zk0 hq41<|Zh (.inr ⟨_,_,45,J,J,J⟩) J<|Zh (.inr ⟨_,_,45,J,J,J⟩) J<|Zk0 hq41<|Zc<|Zs1 J hq41 J<|cn<|Zp1 J J ?_;rw [if_pos (by first | (simp_all;done) | (simp_all;omega))] at hr;refine cd<|cb J<|Zf1<|Zd1<|Zg1 J (.tmp J) ?_;rw [hr]
  refine Zc (Zj fa42_1 J ?_)<|Zy0 hq41;refine Zc (Zu 0 ty3 J J J ?_)<|Zy0 hq41;refine Zc (Zj1 J J J ?_)<|Zy0 hq41;refine Zc (Zl J ?_)<|Zy0 hq41;refine Zj2 (q:=45) J (λ hq45=> ?_)<|λ hq45=> ?_
  .
   refine Zc (Zl J ?_)<|Zy1 hq45;refine Zc (Zj1 J J J ?_)<|Zy1 hq45;refine Zc (Zs1 J hq45 J ?_)<|Zy0 hq41;refine Zc<|Zt1 J hq41 J<|cn<|Zl1 J (λ h49=> ?_)<|λ h49=> ?_
   .
    rw [if_pos (by first | (simp_all;done) | (simp_all;omega))] at hr;refine cd<|cb J<|Zf1<|Zd1<|Zg1 J (.tmp J) ?_;rw [hr]
   rw [if_neg (by first | (simp_all;done) | (simp_all;omega))] at hr;refine co<|cd<|cb J<|Zf1<|Zg1 J (.tmp J) ?_;rw [hr]
  refine Zk1 hq45<|Zk1 hq45<|Zc (Zt1 J hq45 J ?_)<|Zy0 hq41;refine Zc<|Zt1 J hq41 J<|cn<|Zq1 J J ?_;rw [if_neg (by first | (simp_all;done) | (simp_all;omega))] at hr;refine co<|cd<|cb J<|Zf1<|Zg1 J (.tmp J) ?_;rw [hr]
 refine Zk1 hq34<|Zk1 hq34<|Zk1 hq34<|Zk1 hq34<|Zk1 hq34<|Zc<|Zt1 J hq34 J<|ca J<|Zc (Zj fa42_1 J ?_)<|Zy0 J;refine Zc (Zu 0 ty3 J J J ?_)<|Zy0 J;refine Zc (Zj1 J J J ?_)<|Zy0 J;refine Zc (Zl J ?_)<|Zy0 J;refine Zj2 (q:=45) J (λ hq45=> ?_)<|λ hq45=> ?_
 .
  refine Zc (Zl J ?_)<|Zy1 hq45;refine Zc (Zj1 J J J ?_)<|Zy1 hq45;refine Zc (Zs1 J hq45 J ?_)<|Zy0 J;refine Zc<|Zt1 J J J<|cn<|Zl1 J (λ h49=> ?_)<|λ h49=> ?_
  .
   rw [if_pos (by first | (simp_all;done) | (simp_all;omega))] at hr;refine cd<|cb J<|Zf1<|Zd1<|Zg1 J (.tmp J) ?_;rw [hr]
  rw [if_neg (by first | (simp_all;done) | (simp_all;omega))] at hr;refine co<|cd<|cb J<|Zf1<|Zg1 J (.tmp J) ?_;rw [hr]
 refine Zk1 hq45<|Zk1 hq45<|Zc (Zt1 J hq45 J ?_)<|Zy0 J;refine Zc<|Zt1 J J J<|cn<|Zq1 J J ?_;rw [if_neg (by first | (simp_all;done) | (simp_all;omega))] at hr;refine co<|cd<|cb J<|Zf1<|Zg1 J (.tmp J) ?_;rw [hr]
theorem AfB (t:BG){c:FuncId}{caps:List V}{O:Af}{p:Int->Bool}(hen:Enters prog c)(hp:∀v,Cb prog c (.int v::caps) O (.bool (p v))):Cb prog 82 [He t, .clo (.func c) caps] O (.bool (Fx t p)):=by
 refine Cb.drops ?_;have hr:=Fx.eq_def t p;refine Al (nt:=44) func82 J J J ?_;refine cd<|Zc<|Zc2 J J<|λ g2=>(cb J<|Zb<|cd<|cf fa38_0 J<|cg 0 ty3 J J J<|ce J J J<|ca J<|Zj2 (q:=12) J (λ hq12=> ?_)<|λ hq12=> ?_)
 .
  refine Zc (Zj fa38_0 J ?_)<|Zy1 hq12;refine Zc (Zu 0 ty3 J J J ?_)<|Zy1 hq12;refine Zc (Zj1 J J J ?_)<|Zy1 hq12;refine Zc<|Zs1 J hq12 J<|ca J<|Zj2 (q:=17) J (λ hq17=> ?_)<|λ hq17=> ?_
  .
   refine Zc (Zl J ?_)<|Zy1 hq17;refine Zc (Zj fa38_1 J ?_)<|Zy1 hq17;refine Zc (Zu 0 ty3 J J J ?_)<|Zy1 hq17;refine Zc (Fu [.tmp 20] _ [_] J J J hen (Yd (l₁:= [_]) (l₂:=_)) (hp _) ?_)<|Zy1 hq17;refine Zc (Zl2 J ?_)<|Zy1 hq17;refine Zc<|Zs1 J hq17 J<|cn<|Zo1 J (λ h23=> ?_)<|λ h23=> ?_
   .
    rw [if_pos (by simp_all)] at hr;refine cd<|cb J<|Zf1<|Zd1<|Zg1 J (.tmp J) ?_;exact ⟨by rw [hr],Dd (Zt2 _)⟩
   rw [if_neg (by simp_all)] at hr;refine co<|Zb<|cd<|cf fa38_4 J<|cg 0 ty36 J J J<|Zc<|Zd2 (n:=t.to.length) underlying36 J (by simp)<|λ hl26=>(ca J<|cn<|Zs<|Zi2 (ι:=Nat) (λ k=>t.to.length - k) (λ k=> [(1,some (.clo (.func c) caps)),(25,some (AC t.to)),(26,some (.int t.to.length)),(27,some (.int k))]) (λ k=>O) (λ k=>k<=t.to.length/\((t.to.drop k).all λe=>e.args.all p)=(t.to.all λe=>e.args.all p)) 0 ⟨Yf _,J⟩ cv (Dd<|Zt2 _) ?_);rintro k hA;change k<=t.to.length/\((t.to.drop k).all λe=>e.args.all p)=(t.to.all λe=>e.args.all p) at hA;obtain ⟨hk,hq⟩:=hA;refine cd<|cj J J J<|Zb<|Zn1 J (λ h28=> ?_)<|λ h28=> ?_
   .
    obtain⟨e,he⟩:=Ab t.to k h28;refine co<|Zb<|Zs<|cd<|Zc<|Zz (el:=AA e) sl36 J J (by omega) (Aq _ he)<|λ a29=>(Zc<|Za2 ty64 J J<|Zc<|Zb2 zr64 _ J J<|λ g6=>(Zc<|Zx 0 ty64 J J J J J<|cn<|cd<|cf fa64_1 J<|cg 0 ty32 J J J<|Zc<|Zd2 (n:=e.args.length) underlying32 J (by simp)<|λ hl33=>(ca J<|cn<|Zs<|Zi2 (ι:=Nat) (λ j=>e.args.length - j) (λ j=> [(1,some (.clo (.func c) caps)),(25,some (AC t.to)),(26,some (.int t.to.length)),(27,some (.int k)),(32,some (Ad e.args)),(33,some (.int e.args.length)),(34,some (.int j))]) (λ j=>O) (λ j=>j<=e.args.length/\(e.args.drop j).all p=e.args.all p) 0 ⟨Yf _,J⟩ cw (Dd<|Zt2 _) ?_)));rintro j hA2;change j<=e.args.length/\(e.args.drop j).all p=e.args.all p at hA2;obtain ⟨hj,hq2⟩:=hA2;refine cd<|cj J J J<|Zb<|Zn1 J (λ h35=> ?_)<|λ h35=> ?_
    .
     obtain⟨x,hx⟩:=Ab e.args j h35;refine co<|Zb<|Zs<|cd<|Zc<|Zz (el:=V.int x) sl32 J J (by omega) (Bn hx)<|λ a36=>(Zc<|Zz1 ty3 J J<|cb J<|cd<|ca J<|ca J<|Zc<|Fu [.tmp 39] _ [] J J J hen (Yd (l₁:= []) (l₂:=_)) (hp _)<|Zc<|Zl2 J<|cn<|Zo1 J (λ h41=> ?_)<|λ h41=> ?_)
     .
      have hall:e.args.all p=false:=by rw [<- hq2,Ag hx,Ya,h41,Bool.false_and]
      rw [<- hq,Ag he,Ya,hall,Bool.false_and] at hr;refine cd<|cb J<|Zf1<|Za1<|Zd1<|Zd1<|Za1<|Za1<|Zd1<|Zd1<|Za1<|Zd1<|Zg1 J (.tmp J) ?_;exact ⟨by rw [hr],Zt2 _⟩
     refine Zi1<|Zb1<|Zi<|Zd<|cm J J<|ca J<|Za<|Zi ?_;exact ⟨j+1,(by (try simp only []);omega),⟨by omega,by rw [<- hq2,Ag hx,Ya,h41,Bool.true_and]⟩,cw,(Zt2 _)⟩
    have hje:j=e.args.length:=by omega
    subst hje;rw [Yb,Yc] at hq2;have hall:e.args.all p=true:=hq2.symm;refine Zt<|Ze1<|Ze1<|Zc1<|Zb1<|Zi<|Zd<|cm J J<|ca J<|Za<|Zi ?_;exact ⟨k+1,(by (try simp only []);omega),⟨by omega,by rw [<- hq,Ag he,Ya,hall,Bool.true_and]⟩,cv,(Zt2 _)⟩
   have hke:k=t.to.length:=by omega
   subst hke;rw [Yb,Yc] at hq;rw [<- hq] at hr;refine Zt<|Ze1<|Ze1<|Zc1<|Zi<|cd<|cb J<|Zf1<|Zg1 J (.tmp J) ?_;exact ⟨by rw [hr],Zt2 _⟩
  refine Zk1 hq17<|Zk1 hq17<|Zk1 hq17<|Zk1 hq17<|Zk1 hq17<|Zc<|Zt1 J hq17 J<|cn<|Zq1 J J ?_;rw [if_neg (by simp_all)] at hr;refine co<|Zb<|cd<|cf fa38_4 J<|cg 0 ty36 J J J<|Zc<|Zd2 (n:=t.to.length) underlying36 J (by simp)<|λ hl26=>(ca J<|cn<|Zs<|Zi2 (ι:=Nat) (λ k=>t.to.length - k) (λ k=> [(1,some (.clo (.func c) caps)),(25,some (AC t.to)),(26,some (.int t.to.length)),(27,some (.int k))]) (λ k=>O) (λ k=>k<=t.to.length/\((t.to.drop k).all λe=>e.args.all p)=(t.to.all λe=>e.args.all p)) 0 ⟨Yf _,J⟩ cv (Dd<|Zt2 _) ?_);rintro k hA;change k<=t.to.length/\((t.to.drop k).all λe=>e.args.all p)=(t.to.all λe=>e.args.all p) at hA;obtain ⟨hk,hq⟩:=hA;refine cd<|cj J J J<|Zb<|Zn1 J (λ h28=> ?_)<|λ h28=> ?_
  .
   obtain⟨e,he⟩:=Ab t.to k h28;refine co<|Zb<|Zs<|cd<|Zc<|Zz (el:=AA e) sl36 J J (by omega) (Aq _ he)<|λ a29=>(Zc<|Za2 ty64 J J<|Zc<|Zb2 zr64 _ J J<|λ g6=>(Zc<|Zx 0 ty64 J J J J J<|cn<|cd<|cf fa64_1 J<|cg 0 ty32 J J J<|Zc<|Zd2 (n:=e.args.length) underlying32 J (by simp)<|λ hl33=>(ca J<|cn<|Zs<|Zi2 (ι:=Nat) (λ j=>e.args.length - j) (λ j=> [(1,some (.clo (.func c) caps)),(25,some (AC t.to)),(26,some (.int t.to.length)),(27,some (.int k)),(32,some (Ad e.args)),(33,some (.int e.args.length)),(34,some (.int j))]) (λ j=>O) (λ j=>j<=e.args.length/\(e.args.drop j).all p=e.args.all p) 0 ⟨Yf _,J⟩ cw (Dd<|Zt2 _) ?_)));rintro j hA2;change j<=e.args.length/\(e.args.drop j).all p=e.args.all p at hA2;obtain ⟨hj,hq2⟩:=hA2;refine cd<|cj J J J<|Zb<|Zn1 J (λ h35=> ?_)<|λ h35=> ?_
   .
    obtain⟨x,hx⟩:=Ab e.args j h35;refine co<|Zb<|Zs<|cd<|Zc<|Zz (el:=V.int x) sl32 J J (by omega) (Bn hx)<|λ a36=>(Zc<|Zz1 ty3 J J<|cb J<|cd<|ca J<|ca J<|Zc<|Fu [.tmp 39] _ [] J J J hen (Yd (l₁:= []) (l₂:=_)) (hp _)<|Zc<|Zl2 J<|cn<|Zo1 J (λ h41=> ?_)<|λ h41=> ?_)
    .
     have hall:e.args.all p=false:=by rw [<- hq2,Ag hx,Ya,h41,Bool.false_and]
     rw [<- hq,Ag he,Ya,hall,Bool.false_and] at hr;refine cd<|cb J<|Zf1<|Za1<|Zd1<|Zd1<|Za1<|Za1<|Zd1<|Zd1<|Za1<|Zd1<|Zg1 J (.tmp J) ?_;exact ⟨by rw [hr],Zt2 _⟩
    refine Zi1<|Zb1<|Zi<|Zd<|cm J J<|ca J<|Za<|Zi ?_;exact ⟨j+1,(by (try simp only []);omega),⟨by omega,by rw [<- hq2,Ag hx,Ya,h41,Bool.true_and]⟩,cw,(Zt2 _)⟩
   have hje:j=e.args.length:=by omega
   subst hje;rw [Yb,Yc] at hq2;have hall:e.args.all p=true:=hq2.symm;refine Zt<|Ze1<|Ze1<|Zc1<|Zb1<|Zi<|Zd<|cm J J<|ca J<|Za<|Zi ?_;exact ⟨k+1,(by (try simp only []);omega),⟨by omega,by rw [<- hq,Ag he,Ya,hall,Bool.true_and]⟩,cv,(Zt2 _)⟩
  have hke:k=t.to.length:=by omega
  subst hke;rw [Yb,Yc] at hq;rw [<- hq] at hr;refine Zt<|Ze1<|Ze1<|Zc1<|Zi<|cd<|cb J<|Zf1<|Zg1 J (.tmp J) ?_;exact ⟨by rw [hr],Zt2 _⟩
 refine Zk1 hq12<|Zk1 hq12<|Zk1 hq12<|Zc<|Zt1 J hq12 J<|ca J<|Zk1 J<|Zk1 J<|Zk1 J<|Zk1 J<|Zk1 J<|Zc<|Zt1 J J J<|cn<|Zq1 J J ?_;rw [if_neg (by simp_all)] at hr;refine co<|Zb<|cd<|cf fa38_4 J<|cg 0 ty36 J J J<|Zc<|Zd2 (n:=t.to.length) underlying36 J (by simp)<|λ hl26=>(ca J<|cn<|Zs<|Zi2 (ι:=Nat) (λ k=>t.to.length - k) (λ k=> [(1,some (.clo (.func c) caps)),(25,some (AC t.to)),(26,some (.int t.to.length)),(27,some (.int k))]) (λ k=>O) (λ k=>k<=t.to.length/\((t.to.drop k).all λe=>e.args.all p)=(t.to.all λe=>e.args.all p)) 0 ⟨Yf _,J⟩ cv (Dd<|Zt2 _) ?_);rintro k hA;change k<=t.to.length/\((t.to.drop k).all λe=>e.args.all p)=(t.to.all λe=>e.args.all p) at hA;obtain ⟨hk,hq⟩:=hA;refine cd<|cj J J J<|Zb<|Zn1 J (λ h28=> ?_)<|λ h28=> ?_
 .
  obtain⟨e,he⟩:=Ab t.to k h28;refine co<|Zb<|Zs<|cd<|Zc<|Zz (el:=AA e) sl36 J J (by omega) (Aq _ he)<|λ a29=>(Zc<|Za2 ty64 J J<|Zc<|Zb2 zr64 _ J J<|λ g6=>(Zc<|Zx 0 ty64 J J J J J<|cn<|cd<|cf fa64_1 J<|cg 0 ty32 J J J<|Zc<|Zd2 (n:=e.args.length) underlying32 J (by simp)<|λ hl33=>(ca J<|cn<|Zs<|Zi2 (ι:=Nat) (λ j=>e.args.length - j) (λ j=> [(1,some (.clo (.func c) caps)),(25,some (AC t.to)),(26,some (.int t.to.length)),(27,some (.int k)),(32,some (Ad e.args)),(33,some (.int e.args.length)),(34,some (.int j))]) (λ j=>O) (λ j=>j<=e.args.length/\(e.args.drop j).all p=e.args.all p) 0 ⟨Yf _,J⟩ cw (Dd<|Zt2 _) ?_)));rintro j hA2;change j<=e.args.length/\(e.args.drop j).all p=e.args.all p at hA2;obtain ⟨hj,hq2⟩:=hA2;refine cd<|cj J J J<|Zb<|Zn1 J (λ h35=> ?_)<|λ h35=> ?_
  .
   obtain⟨x,hx⟩:=Ab e.args j h35;refine co<|Zb<|Zs<|cd<|Zc<|Zz (el:=V.int x) sl32 J J (by omega) (Bn hx)<|λ a36=>(Zc<|Zz1 ty3 J J<|cb J<|cd<|ca J<|ca J<|Zc<|Fu [.tmp 39] _ [] J J J hen (Yd (l₁:= []) (l₂:=_)) (hp _)<|Zc<|Zl2 J<|cn<|Zo1 J (λ h41=> ?_)<|λ h41=> ?_)
   .
    have hall:e.args.all p=false:=by rw [<- hq2,Ag hx,Ya,h41,Bool.false_and]
    rw [<- hq,Ag he,Ya,hall,Bool.false_and] at hr;refine cd<|cb J<|Zf1<|Za1<|Zd1<|Zd1<|Za1<|Za1<|Zd1<|Zd1<|Za1<|Zd1<|Zg1 J (.tmp J) ?_;exact ⟨by rw [hr],Zt2 _⟩
   refine Zi1<|Zb1<|Zi<|Zd<|cm J J<|ca J<|Za<|Zi ?_;exact ⟨j+1,(by (try simp only []);omega),⟨by omega,by rw [<- hq2,Ag hx,Ya,h41,Bool.true_and]⟩,cw,(Zt2 _)⟩
  have hje:j=e.args.length:=by omega
  subst hje;rw [Yb,Yc] at hq2;have hall:e.args.all p=true:=hq2.symm;refine Zt<|Ze1<|Ze1<|Zc1<|Zb1<|Zi<|Zd<|cm J J<|ca J<|Za<|Zi ?_;exact ⟨k+1,(by (try simp only []);omega),⟨by omega,by rw [<- hq,Ag he,Ya,hall,Bool.true_and]⟩,cv,(Zt2 _)⟩
 have hke:k=t.to.length:=by omega
 subst hke;rw [Yb,Yc] at hq;rw [<- hq] at hr;refine Zt<|Ze1<|Ze1<|Zc1<|Zi<|cd<|cb J<|Zf1<|Zg1 J (.tmp J) ?_;exact ⟨by rw [hr],Zt2 _⟩
end Go.Proofs.YthlflmmnankhhaaGreat.X2
