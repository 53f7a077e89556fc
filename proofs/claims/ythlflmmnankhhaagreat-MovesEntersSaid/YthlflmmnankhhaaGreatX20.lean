import Derived.Test.YthlflmmnankhhaaGreatXS
import Derived.Test.YthlflmmnankhhaaGreatXE
set_option maxRecDepth 100000
set_option maxHeartbeats 4000000
set_option linter.all false
open List renaming length_map → Ya
namespace Go.Proofs.YthlflmmnankhhaaGreat.X20
open Go.VL Go.SM Go.Proofs.YthlflmmnankhhaaGreat XS X1 X2 X3 X4 X5 X6 X7 X8 X9 X10 X12 X13
theorem OrderRow_c {f : SFunc} (h0 : funcF f = 0) : VCalls Tryz.prog 20 [funcV f] [] λ r S' => ∃ g cap rest, (ordZ f.blocks).length <= cap /\ cap <= maxLen /\ r = .tup [.raw (.slice (some ⟨g, 0, none⟩) (ordZ f.blocks).length cap), .int 0] /\ S' = [.cells g 3 ((ordZ f.blocks).map V.int ++ rest)] := by
 refine VCalls_drops<|V_start (nt := 17) Tryz.func20 rfl rfl rfl ?_
 refine Zb<|Zd<|Zc<|Zc2 rfl rfl<|λ g1 => (Zc<|Zk rfl<|Zc<|Zk rfl<|Za<|Zi<|Zb<|Zb<|Zd<|Zc<|Zv 0 VT.ty31 rfl rfl rfl<|Zc<|Zx1 [.tmp 6] rfl rfl VT.en25 (CheckFunc_c f)<|Zc<|Zk rfl<|Za<|Zi<|Zb<|Zd<|Zc<|Zl rfl<|Zc<|Zj1 rfl rfl rfl<|Za<|Zi<|Zm1 rfl (λ h9 => ?_)<|λ h9 => ?_)
 . exact absurd h0 h9
 have hok := func_ok h9
 have hne : postF f.blocks ≠ [] := λ e => by have := (order_ok hok.pos hok.edges).zero; rw [orderF, e] at this; cases this
 have hpl := post_len hok.pos hok.edges
 have h128 := hok.len
 have hoz : ordZ f.blocks = ((postF f.blocks).map λ k : Nat => (k : Int)).reverse := by rw [ordZ, orderF, List.map_reverse]
 refine Zi1<|Zi<|Zb<|Zd<|Zc<|Zb2 VT.zr32 _ rfl rfl<|λ g5 => (Za<|Zi<|VW_perm (S' := .cells g1 31 [.int f.name, blocksX f.blocks] :: ordS g5 none []) (List.Perm.swap _ _ _)<|Zb<|Zd<|Zc<|Zv 0 VT.ty31 rfl rfl rfl<|Zc<|V_makeFunc [.tmp 5] rfl rfl<|Zc<|V_callG [.tmp 11, .tmp 12] (ordS g5 none []) [_] rfl rfl VT.en38 (List.perm_append_comm (l₁ := [_])) (search_c f.name f.blocks hok.pos hok.len hok.edges VT.en39 (λ x l => ordS g5 x l) ordOk none rfl<|λ x l k h hl => leave_c g5 x l k h hl) ?_)
 rintro r Sa ⟨x, rfl, hx⟩
 obtain ⟨⟨gs, cap, rest⟩, rfl⟩ := ordOk_some hx hne
 obtain ⟨hll, hlc, hcm⟩ := hx
 refine ⟨_, Zt2 _, ?_⟩
 refine Za<|Zi<|Zb<|Zd<|Zc<|Zu2 (Zu 0 VT.ty32 rfl rfl rfl ⟨rfl, rfl⟩) ((V.le.of_eq (by rw [Ya]) : V.le _ (.raw<|.slice (some ⟨gs, 0, none⟩) ((postF f.blocks).map λ k : Nat => (k : Int)).length cap)))<|Zc<|Zm3 [.tmp 14] [_] _ rfl rfl VT.en40 (Zv2 (i := 1) rfl) (Reverse_c gs cap ((postF f.blocks).map λ k : Nat => (k : Int)) rest (by rw [Ya]; omega)) ?_
 rintro r Sa rfl
 refine Za<|Zi<|Zb<|Zd<|Zc<|Zu 1 VT.ty32 rfl rfl rfl<|Zc<|Zk rfl<|Zc<|Zk rfl<|Za<|Zi<|Zf1<|Zh1 rfl rfl (.cons (.tmp rfl)<|.cons (.tmp rfl)<|.nil)<|⟨_, (Drops.keep (Drops.drop (Drops.drop (Zt2 _)))), gs, cap, rest, by rw [hoz, List.length_reverse, Ya]; exact hlc, hcm, ?_, ?_⟩
 . rw [hoz, List.length_reverse, Ya]
 . rw [hoz]
theorem Reachable_c {f : SFunc} (h0 : funcF f = 0) : VPure Tryz.prog 8 [funcV f] (.tup [intsX (reachL f), .int 0]) := by
 have hok := func_ok h0
 have ho := order_ok hok.pos hok.edges
 have h128 := hok.len
 have hzl : (ordZ f.blocks).length <= 128 := by rw [ordZ, Ya]; exact Nat.le_trans (nodup_lt ho.nodup ho.lt) h128
 refine V_start (nt := 15) Tryz.func8 rfl rfl rfl ?_
 refine Zb<|Zd<|Zc<|Zc2 rfl rfl<|λ g1 => (Zc<|Zk rfl<|Zc<|Zk rfl<|Za<|Zi<|Zb<|Zd<|Zc<|Zv 0 VT.ty31 rfl rfl rfl<|Zc<|Zm3 [.tmp 7] [] _ rfl rfl VT.en20 (.refl _) (OrderRow_c h0) ?_)
 rintro r Sa ⟨g, cap, rest, hlc, hcm, rfl, rfl⟩
 refine Zc<|Zl rfl<|Zc<|Zg2 rfl rfl<|Zc<|Zg2 rfl rfl<|Zc<|Zk rfl<|Zc<|Zk rfl<|Za<|Zi<|Zb<|Zd<|Zc<|Zl rfl<|Zc<|Zm3 [.tmp 11] [_] _ rfl rfl VT.en21 (Zv2 (i := 0) rfl) (Sort_c g cap 3 (ordZ f.blocks) rest (by omega)) ?_
 rintro r Sa rfl
 refine Za<|Zi<|VW_freeze 0 (q := 4) (rest := rest) ((reachL f).map V.int) rfl rfl (by rw [flat_ints]; rfl) (by rw [Ya, reachL, List.length_mergeSort]) hlc hcm (flat_fits _)<|Zb<|Zd<|Zc<|Zl rfl<|Zc<|Zl rfl<|Zc<|Zk rfl<|Zc<|Zk rfl<|Za<|Zi<|Zf1<|Zh1 rfl rfl (.cons (.tmp rfl)<|.cons (.tmp rfl)<|.nil) ?_
 rfl
end Go.Proofs.YthlflmmnankhhaaGreat.X20
