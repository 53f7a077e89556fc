import Derived.Test.YtnklonhioneeoaaS5
set_option linter.unusedVariables false
set_option linter.unusedSimpArgs false
namespace Go.SM
open Go.VL
theorem okV_truth (nf nh : Nat) (b : Bool) : okV nf nh (truthF b) = true := by unfold truthF; split <;> exact okV_word _ _ _
theorem binary_ok (nf nh : Nat) (op a b : Int) : okV nf nh (binaryF op a b).1 = true := by
  unfold binaryF
  repeat' split
  all_goals first | exact okV_word _ _ _ | exact okV_truth _ _ _ | exact okV_zero _ _
theorem object_ok {nf nh : Nat} {i : SIns} {args : List Val} (h : ∀ a ∈ args, okV nf nh a = true) : okV nf nh (objectF i args).1 = true := by
  have ho : ∀ k, okV nf nh (argAt (argAt args 0).list k) = true := fun k => argAt_ok (okV_iff.1 (argAt_ok h 0)).2.2.2 k
  unfold objectF
  dsimp only
  repeat' split
  all_goals first | exact okV_word _ _ _ | exact okV_zero _ _ | exact ho _
theorem lanes_ok (nf nh : Nat) (op : Int) : ∀ (as bs : List Val), ∀ v ∈ lanesF op as bs, okV nf nh v = true
  | a :: as, b :: bs, v, hv => by
    rw [lanesF] at hv
    rcases List.mem_cons.1 hv with rfl | hv
    · exact binary_ok _ _ _ _ _
    · exact lanes_ok nf nh op as bs v hv
  | [], _, v, hv => by simp [lanesF] at hv
  | _ :: _, [], v, hv => by simp [lanesF] at hv
theorem okV_mk {nf nh : Nat} {k n : Int} {l : List Val} (h2 : k = 2 → 0 ≤ n ∧ n < nf) (h3 : k ≠ 3) (hl : l.length ≤ 4096) (h : ∀ v ∈ l, okV nf nh v = true) : okV nf nh (.mk k n l none) = true :=
  okV_iff.2 ⟨by simp [Val.arr, Val.kind, okArr, h3], h2, hl, h⟩
theorem vector_ok {nf nh : Nat} {i : SIns} {args : List Val} (hl : args.length ≤ 4096) (h : ∀ a ∈ args, okV nf nh a = true) : okV nf nh (vectorF i args).1 = true := by
  have h0 := okV_iff.1 (argAt_ok h 0)
  unfold vectorF
  repeat' split
  all_goals first | exact okV_zero _ _ | exact argAt_ok h0.2.2.2 _ | exact okV_mk (fun h => by cases h) (by decide) hl h | skip
  refine okV_mk (fun h => by cases h) (by decide) ?_ (lanes_ok nf nh _ _ _)
  exact Nat.le_trans (lanes_len _ _ _) h0.2.2.1
structure ExecPost (nf : Nat) (M M' : Mach) (v : Val) : Prop where
  heap : ∀ l ∈ M'.heap, l.length ≤ 1024 ∧ ∀ v ∈ l, okV nf M'.heap.length v = true
  grows : M.heap.length ≤ M'.heap.length
  val : okV nf M'.heap.length v = true
  stack : M'.stack = M.stack
  out : M'.out.length ≤ 1000
  left0 : 0 ≤ M'.left
  left : M'.left ≤ M.left
structure HeapOk (nf : Nat) (M : Mach) : Prop where
  heap : ∀ l ∈ M.heap, l.length ≤ 1024 ∧ ∀ v ∈ l, okV nf M.heap.length v = true
  out : M.out.length ≤ 1000
  left0 : 0 ≤ M.left
theorem HeapOk.same {nf : Nat} {M : Mach} (h : HeapOk nf M) {v : Val} (hv : okV nf M.heap.length v = true) : ExecPost nf M M v := ⟨h.heap, Nat.le_refl _, hv, rfl, h.out, h.left0, Int.le_refl _⟩
theorem payF_post {nf : Nat} {M : Mach} (h : HeapOk nf M) {n : Int} (hn : 0 ≤ n) {v : Val} (hv : okV nf M.heap.length v = true) : ExecPost nf M (payF n M) v := by
  have h0 := h.left0
  unfold payF
  split
  · exact ⟨h.heap, Nat.le_refl _, hv, rfl, h.out, h.left0, Int.le_refl _⟩
  · exact ⟨h.heap, Nat.le_refl _, hv, rfl, h.out, by dsimp only; omega, by dsimp only; omega⟩
theorem alloc_post {nf : Nat} {M : Mach} (h : HeapOk nf M) {size fill : Val} (hf : okV nf M.heap.length fill = true) : ExecPost nf M (allocF size fill M).1 (allocF size fill M).2.1 := by
  unfold allocF
  split
  · exact h.same (okV_zero _ _)
  · split
    · exact h.same (okV_zero _ _)
    · rename_i h1 h2
      have hp := payF_post h (n := size.n) (by omega) (okV_zero nf M.heap.length)
      split
      · exact hp
      · dsimp only
        refine ⟨fun l hl => ?_, by simp, ?_, hp.stack, hp.out, hp.left0, hp.left⟩
        · simp only [List.length_append, List.length_cons, List.length_nil]
          rcases List.mem_append.1 hl with hl | hl
          · exact ⟨(h.heap l hl).1, fun v hv => okV_mono (by omega) v ((h.heap l hl).2 v hv)⟩
          · rw [List.mem_singleton.1 hl, List.length_replicate]
            exact ⟨by omega, fun v hv => by rw [(List.mem_replicate.1 hv).2]; exact okV_mono (by omega) _ hf⟩
        · rw [okV, okVs]
          simp [okArr]
theorem setArr_post {nf : Nat} {M : Mach} (h : HeapOk nf M) {v x : Val} {k : Nat} {w : Val} (hx : okV nf M.heap.length x = true) (hw : okV nf M.heap.length w = true) : ExecPost nf M (setArr M v ((arrOf M v).set k x)) w := by
  unfold setArr
  cases ha : v.arr with
  | none => exact h.same hw
  | some j =>
    dsimp only
    refine ⟨fun l hl => ?_, by simp, by simpa using hw, rfl, h.out, h.left0, Int.le_refl _⟩
    simp only [List.length_set]
    rcases List.mem_or_eq_of_mem_set hl with hl | rfl
    · exact h.heap l hl
    · have hao : arrOf M v = (M.heap[j]?).getD [] := by rw [arrOf, ha]; rfl
      rw [hao, List.length_set]
      cases hj : M.heap[j]? with
      | none => exact ⟨by simp, fun v hv => by simp at hv⟩
      | some l =>
        have hl := h.heap l (List.mem_of_getElem? hj)
        refine ⟨hl.1, fun v hv => ?_⟩
        rcases List.mem_or_eq_of_mem_set hv with hv | rfl
        · exact hl.2 v hv
        · exact hx
theorem arrOf_ok {nf : Nat} {M : Mach} (h : HeapOk nf M) (v : Val) : ∀ x ∈ arrOf M v, okV nf M.heap.length x = true := by
  unfold arrOf
  cases v.arr with
  | none => intro x hx; simp at hx
  | some j =>
    cases hj : M.heap[j]? with
    | none => intro x hx; simp [hj] at hx
    | some l => intro x hx; simp [hj] at hx; exact (h.heap l (List.mem_of_getElem? hj)).2 x hx
theorem effect_post {nf : Nat} {M : Mach} (h : HeapOk nf M) {i : SIns} {args : List Val} (ha : ∀ a ∈ args, okV nf M.heap.length a = true) : ExecPost nf M (effectF i args M).1 (effectF i args M).2.1 := by
  unfold effectF
  split
  · split
    · exact h.same (okV_zero _ _)
    · split
      · exact h.same (okV_zero _ _)
      · have := h.out
        exact ⟨h.heap, Nat.le_refl _, okV_word _ _ _, rfl, by simp; omega, h.left0, Int.le_refl _⟩
  · split
    · exact alloc_post h (argAt_ok ha 1)
    · split
      · split
        · exact h.same (okV_zero _ _)
        · split
          · exact h.same (okV_zero _ _)
          · exact h.same (okV_word _ _ _)
      · split
        · exact h.same (okV_zero _ _)
        · split
          · exact h.same (okV_word _ _ _)
          · split
            · exact h.same (okV_zero _ _)
            · split
              · exact h.same (argAt_ok (arrOf_ok h _) _)
              · exact setArr_post h (argAt_ok ha 2) (okV_word _ _ _)
theorem exec_post {nf : Nat} {M : Mach} (h : HeapOk nf M) {i : SIns} {args : List Val} (hc : i.op = 9 → 0 ≤ i.n ∧ i.n < nf) (hl : args.length ≤ 4096) (ha : ∀ a ∈ args, okV nf M.heap.length a = true) : ExecPost nf M (execF i args M).1 (execF i args M).2.1 := by
  unfold execF
  split
  · exact h.same (okV_word _ _ _)
  · split
    · split
      · exact h.same (okV_zero _ _)
      · exact h.same (binary_ok _ _ _ _ _)
    · split
      · exact h.same (okV_mk (fun h => by cases h) (by decide) hl ha)
      · split
        · rename_i h9
          exact h.same (okV_mk (fun _ => hc h9) (by decide) hl ha)
        · split
          · exact h.same (object_ok ha)
          · split
            · exact h.same (vector_ok hl ha)
            · split
              · exact h.same (argAt_ok ha 0)
              · exact effect_post h ha
theorem vput_ok {nf nh : Nat} {x : Int} {v : Val} (hv : okV nf nh v = true) : ∀ {m : Vals}, (∀ e ∈ m, okV nf nh e.2 = true) → ∀ e ∈ vput m x v, okV nf nh e.2 = true
  | [], _, e, he => by rw [vput, List.mem_singleton] at he; subst he; exact hv
  | (k, u) :: m, h, e, he => by
    rw [vput] at he
    split at he
    · rcases List.mem_cons.1 he with rfl | he
      · exact hv
      · exact h e (List.mem_cons_of_mem _ he)
    · rcases List.mem_cons.1 he with rfl | he
      · exact h _ (List.mem_cons_self ..)
      · exact vput_ok hv (fun e he => h e (List.mem_cons_of_mem _ he)) e he
theorem vputs_ok {nf nh : Nat} : ∀ (ps : List Int) (vs : List Val) {m : Vals}, (∀ v ∈ vs, okV nf nh v = true) → (∀ e ∈ m, okV nf nh e.2 = true) → ∀ e ∈ vputs m ps vs, okV nf nh e.2 = true
  | p :: ps, v :: vs, m, hv, h => vputs_ok ps vs (fun x hx => hv x (List.mem_cons_of_mem _ hx)) (vput_ok (hv v (List.mem_cons_self ..)) h)
  | [], _, m, _, h => h
  | _ :: _, [], m, _, h => h
theorem take_ok {nf nh : Nat} {m : Vals} (h : ∀ e ∈ m, okV nf nh e.2 = true) (l : List Int) : ∀ v ∈ takeF m l, okV nf nh v = true := fun v hv => by
  obtain ⟨x, _, rfl⟩ := List.mem_map.1 hv
  exact vget_ok x h
theorem FrameOk.mono {u : SUnit} {nh nh' : Nat} {f : MFrame} (h : FrameOk u nh f) (hn : nh ≤ nh') : FrameOk u nh' f := ⟨h.fn0, h.blk0, h.code, fun e he => okV_mono hn _ (h.vals e he)⟩
theorem follow_ok {u : SUnit} {nh : Nat} {f : MFrame} {F : SFunc} {t : STerm} {e : SEdge} (h : FrameOk u nh f) (hF : u.fns[f.fn.toNat]? = some F) (ht : TermOk F t) (he : e ∈ t.to) : FrameOk u nh (followF u f e) := by
  obtain ⟨h0, ⟨b, hb, hl⟩, _⟩ := ht.edges e he
  exact ⟨h.fn0, h0, ⟨F, b, hF, hb, Int.le_refl _, by show (0 : Int) ≤ _; omega⟩, vputs_ok _ _ (take_ok h.vals _) h.vals⟩
theorem entered_ok {u : SUnit} (hU : UOk u) {nh : Nat} {n to : Int} {args : List Val} (h0 : 0 ≤ n) (h1 : n < u.fns.length) (ha : ∀ a ∈ args, okV u.fns.length nh a = true) : FrameOk u nh (entered u n args to) := by
  obtain ⟨F, hF⟩ := get_of_lt u.fns n.toNat (by omega)
  obtain ⟨b, tl, hb⟩ := List.exists_cons_of_ne_nil (hU.ne F (List.mem_of_getElem? hF))
  exact ⟨h0, Int.le_refl _, ⟨F, b, hF, by show F.blocks[0]? = _; rw [hb]; rfl, Int.le_refl _, by show (0 : Int) ≤ _; omega⟩, vputs_ok _ _ ha fun e he => by cases he⟩
theorem stop_ok {u : SUnit} {M : Mach} (h : MOk u M) (e n : Int) : MOk u (stopF e n M) := ⟨h.frames, h.heap, h.out, h.left0, h.left⟩
theorem edgeAt_mem {t : STerm} {k : Nat} (h : k < t.to.length) : edgeAt t k ∈ t.to := by
  rw [edgeAt, List.getElem?_eq_getElem h]
  exact List.getElem_mem h
theorem MOk.restack {u : SUnit} {M : Mach} (h : MOk u M) {fs : List MFrame} (hf : ∀ f ∈ fs, FrameOk u M.heap.length f) (hl : fs.length ≤ M.stack.length) : MOk u { M with stack := fs } :=
  ⟨hf, h.heap, h.out, h.left0, by have := h.left; dsimp only; omega⟩
theorem term_ok {u : SUnit} {M : Mach} (h : MOk u M) {f : MFrame} {fs : List MFrame} (hst : M.stack = f :: fs) {F : SFunc} {t : STerm} (hF : u.fns[f.fn.toNat]? = some F) (ht : TermOk F t) : MOk u (termF u f t fs M) := by
  have hfo := h.frames f (by rw [hst]; exact List.mem_cons_self ..)
  have hfs : ∀ g ∈ fs, FrameOk u M.heap.length g := fun g hg => h.frames g (by rw [hst]; exact List.mem_cons_of_mem _ hg)
  have goto : ∀ e ∈ t.to, MOk u { M with stack := followF u f e :: fs } := fun e he => h.restack (fun g hg => by
    rcases List.mem_cons.1 hg with rfl | hg
    · exact follow_ok hfo hF ht he
    · exact hfs g hg) (by rw [hst]; simp)
  unfold termF
  split
  · exact stop_ok h _ _
  · rename_i h4
    split
    · rename_i h1
      exact goto _ (edgeAt_mem (ht.one h1))
    · rename_i h1
      split
      · unfold leaveF
        split
        · rename_i g gs
          refine h.restack (fun x hx => ?_) (by rw [hst]; simp)
          rcases List.mem_cons.1 hx with rfl | hx
          · have hg := hfs g (List.mem_cons_self ..)
            exact ⟨hg.fn0, hg.blk0, hg.code, vput_ok (vget_ok _ hfo.vals) hg.vals⟩
          · exact hfs x (List.mem_cons_of_mem _ hx)
        · exact stop_ok (h.restack (fun x hx => by cases hx) (by simp)) _ _
      · rename_i h0
        split
        · exact stop_ok h _ _
        · have := choice_lt ht (vget f.vals t.arg).n h0 h1 h4
          exact goto _ (edgeAt_mem (by omega))
theorem enter_ok {u : SUnit} (hU : UOk u) {M : Mach} (h : MOk u M) (hl : M.left + M.stack.length ≤ 1000000) {n to : Int} {args : List Val} (h0 : 0 ≤ n) (h1 : n < u.fns.length) (ha : ∀ a ∈ args, okV u.fns.length M.heap.length a = true) : MOk u (enterF u n args to M) := by
  refine ⟨fun g hg => ?_, h.heap, h.out, h.left0, by show M.left + ((M.stack.length + 1 : Nat) : Int) ≤ _; omega⟩
  rcases List.mem_cons.1 hg with rfl | hg
  · exact entered_ok hU h0 h1 ha
  · exact h.frames g hg
theorem ins_ok {u : SUnit} (hU : UOk u) {M : Mach} (h : MOk u M) (hl : M.left + M.stack.length ≤ 1000000) {f : MFrame} {fs : List MFrame} (hst : M.stack = f :: fs) {i : SIns} (hi : InsOk u i) : MOk u (insF u f i fs M) := by
  have hfo := h.frames f (by rw [hst]; exact List.mem_cons_self ..)
  have ha := take_ok hfo.vals i.args
  have hlen : (takeF f.vals i.args).length = i.args.length := by rw [takeF, List.length_map]
  have hm := hi.many
  unfold insF
  dsimp only
  split
  · rename_i h13
    have := hi.call h13
    exact enter_ok hU h hl this.1 this.2.1 ha
  · split
    · split
      · rename_i hc
        have := (okV_iff.1 (argAt_ok ha 0)).2.1 hc.1
        exact enter_ok hU h hl this.1 this.2 ha
      · exact stop_ok h _ _
    · have hp := exec_post (i := i) ⟨h.heap, h.out, h.left0⟩ hi.clos (by rw [hlen]; exact hm) ha
      have key : ∀ M1 : Mach, M1.heap = (execF i (takeF f.vals i.args) M).1.heap → M1.out = (execF i (takeF f.vals i.args) M).1.out → M1.left = (execF i (takeF f.vals i.args) M).1.left → MOk u { M1 with stack := { f with vals := vput f.vals i.to (execF i (takeF f.vals i.args) M).2.1 } :: fs } := fun M1 h1 h2 h3 => by
        refine ⟨fun g hg => ?_, by dsimp only; rw [h1]; exact hp.heap, by dsimp only; rw [h2]; exact hp.out, by dsimp only; rw [h3]; exact hp.left0, ?_⟩
        · dsimp only
          rw [h1]
          rcases List.mem_cons.1 hg with rfl | hg
          · exact ⟨hfo.fn0, hfo.blk0, hfo.code, vput_ok hp.val fun e he => okV_mono hp.grows _ (hfo.vals e he)⟩
          · exact (h.frames g (by rw [hst]; exact List.mem_cons_of_mem _ hg)).mono hp.grows
        · dsimp only
          rw [h3]
          have := hp.left
          rw [hst] at hl
          simp at hl ⊢
          omega
      split
      · exact key _ rfl rfl rfl
      · exact key _ rfl rfl rfl
theorem step_ok {u : SUnit} (hU : UOk u) {M : Mach} (h : MOk u M) (hl : M.left + M.stack.length ≤ 1000000) : MOk u (stepF u M) := by
  unfold stepF
  split
  · exact h
  · rename_i f fs hst
    dsimp only
    have hfo := h.frames f (by rw [hst]; exact List.mem_cons_self ..)
    obtain ⟨F, b, hF, hb, hat0, hat⟩ := hfo.code
    have hblk : blockAt u f.fn f.block = b := by rw [blockAt, hF]; simp [hb]
    have hFm := List.mem_of_getElem? hF
    have hbm := List.mem_of_getElem? hb
    rw [hblk]
    split
    · exact term_ok h hst hF (hU.term F hFm b hbm)
    · rename_i hne
      obtain ⟨i, hi⟩ := get_of_lt b.ins f.at_.toNat (by omega)
      rw [hi, Option.getD_some]
      refine ins_ok (M := { M with stack := { f with at_ := f.at_ + 1 } :: fs }) hU ?_ ?_ rfl (hU.ins F hFm b hbm i (List.mem_of_getElem? hi))
      · refine h.restack (fun g hg => ?_) (by rw [hst]; simp)
        rcases List.mem_cons.1 hg with rfl | hg
        · exact ⟨hfo.fn0, hfo.blk0, ⟨F, b, hF, hb, by show (0 : Int) ≤ f.at_ + 1; omega, by show f.at_ + 1 ≤ _; omega⟩, hfo.vals⟩
        · exact h.frames g (by rw [hst]; exact List.mem_cons_of_mem _ hg)
      · show M.left + _ ≤ _
        rw [hst] at hl
        simpa using hl
theorem step_stack {u : SUnit} (hU : UOk u) {M : Mach} (h : MOk u M) {f : MFrame} {fs : List MFrame} (hst : M.stack = f :: fs) (ho : M.over = false) : (stepF u M).over = true ∨ (stepF u M).stack ≠ [] := by
  unfold stepF
  rw [hst]
  dsimp only
  split
  · unfold termF
    split
    · exact .inl rfl
    · split
      · exact .inr (by simp)
      · split
        · unfold leaveF
          cases fs with
          | nil => exact .inl rfl
          | cons g gs => exact .inr (by simp)
        · split
          · exact .inl rfl
          · exact .inr (by simp)
  · unfold insF
    dsimp only
    split
    · exact .inr (by simp [enterF])
    · split
      · split
        · exact .inr (by simp [enterF])
        · exact .inl rfl
      · exact .inr (by simp)
end Go.SM
