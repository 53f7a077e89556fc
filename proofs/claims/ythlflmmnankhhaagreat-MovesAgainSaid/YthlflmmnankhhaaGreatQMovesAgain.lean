import Derived.Test.YthlflmmnankhhaaGreatVQ
import Derived.Test.YthlflmmnankhhaaGreatVG3
import Derived.Test.YthlflmmnankhhaaGreatXG
import Derived.Test.YthlflmmnankhhaaGreatRows
set_option linter.all false
namespace Go.Proofs.YthlflmmnankhhaaGreat.movesAgain
open Go.ChangeShapes Go.WideShapes Go.ChangeAt Go.RowKit
open Go.ChangeMaps (open_string shut_string)
open Go.VL Go.SM Go.Proofs.YthlflmmnankhhaaGreat VG3 X89
theorem own:ownKnob Tryz.prog.godebug=none:=by kernel_rfl
theorem laidOut:laidOutB Tryz.prog=true:=by kernel_rfl
theorem walk (W:World)(x0:Ao)(hzx0:Z5 x0)(v0:Value)(h0:Rep (Gg W) (DT x0) v0):
    Calls Tryz.prog 5 #[v0] W fun e w'=>e= .returned (.bool true) ∧ Below W.heap.size W w':=by
  have h:=P9 x0 hzx0;exact AP.calls (us:= [v0]) h ⟨v0,_,rfl,h0,rfl⟩
set_option maxRecDepth 100000 in
theorem lifted (os:Os)(started:os.Started)(H:Type)(enc:TypeId×Value → H):
    ReturnsInHanded {} Tryz.checked os 5 .any (Rows.movesAgainSpec.pre6 enc Tryz.prog Tryz.f5 Rows.movesAgainRow.domain false) (Rows.movesAgainSpec.post enc Tryz.prog Tryz.f5 false true false false):=by
  refine PX (C:=Tryz.checked) own started (by kernel_rfl) Tryz.func5
    (ChangeSpec.witness6 (enc:=enc) (C:=Tryz.checked) false ⟨#[], #[.agg #[.slice none 0 0, .int .i64 0]],[]⟩ 8 (by kernel_rfl) (by kernel_rfl) (by kernel_rfl) (by kernel_rfl)) ?_
  intro W base args ds gs before hval0 hW hwt0;have hval:∀(j:Nat) t v,Tryz.f5.params[j]? =some t → args[j]? =some v → Value.okWide Tryz.prog W .any base t v:=hval0;have hW':=hW;obtain ⟨p,q,hA0,hV,rfl,hfz,hnd⟩:=hW;have hA:DataW.TrodAll enc Tryz.prog W 0 (fun _=>true) true Tryz.f5.params.toList args.toList ds p:=hA0;have hwt:(DataW.weightsEach Tryz.prog (Tryz.f5.params.toList++Rows.movesAgainSpec.plain.varTypes Tryz.prog) (ds++gs)).all (· ≤ reachBytes)=true:=hwt0;rw [Tryz.params5] at hA hval hwt;obtain ⟨v0,vs0,d0,ds0,p0,q0,hargs,rfl,rfl,h0,r0⟩:=trodAll_cons hA;obtain ⟨rfl,rfl,rfl⟩:=trodAll_nil r0;obtain rfl:args= #[v0]:=by cases args;simp_all
  obtain⟨rfl,rfl⟩:=trodVars_none hV;obtain ⟨a0,rfl,_⟩:=okWide_struct Tryz.underlying24 (hval 0 24 v0 rfl rfl);have k0:=h0;have lt0:∀x∈p0,x.block<W.heap.size:=by obtain⟨m,hm⟩:=k0;exact DataW.trod_lt m _ _ _ hm
  have w0:=KI hwt 0 24 d0 rfl rfl;obtain ⟨f0,t0⟩:=h0;obtain ⟨x0,hz0,hr0⟩:=TK t0 w0;clear hA0 hval0;refine (walk W x0 hz0 _ hr0).mono fun e W' ⟨he,bel⟩=> ?_;subst he;exact ⟨_,rfl,_,_,_,[],_,[],hW',trodAll_mk1 (shut_bool Tryz.underlying4 _),(trodAll_cons_mk (Below.trod laidOut (by kernel_rfl) (of_decide_eq_true (by kernel_rfl)) k0 bel lt0) trodAll_mk0),rfl,bel.frame _,fun h=>by cases h⟩
theorem over:Rows.movesAgainRow.holds Tryz.pinned (OpenSpec.ofChange Rows.movesAgainSpec):=
  OpenClaim.holds_of_wide 5 Tryz.f5 rfl rfl rfl rfl rfl rfl rfl ⟨rfl,rfl,rfl,rfl,rfl⟩ rfl rfl rfl rfl rfl (by kernel_rfl) Tryz.func5 (by kernel_rfl)
    (of_decide_eq_true (by kernel_rfl)) (by unfold Func.isWrapper;first | (rw [if_pos (by decide +kernel)];kernel_rfl) | (rw [if_neg (by decide +kernel)];exact⟨rfl,rfl⟩))
    (fun os started H enc _=>lifted os started H enc)
theorem proved:Rows.MovesAgainSaid:=over
end Go.Proofs.YthlflmmnankhhaaGreat.movesAgain
