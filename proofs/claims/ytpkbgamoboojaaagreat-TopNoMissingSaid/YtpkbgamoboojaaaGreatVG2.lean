import Derived.Test.YtpkbgamoboojaaaGreatVG
import Derived.Test.YtpkbgamoboojaaaGreatVT
import Derived.Test.YtpkbgamoboojaaaGreatDZ
set_option linter.all false
open List renaming all_cons → Ya
namespace Go.Proofs.YtpkbgamoboojaaaGreat.VG2
open Go.VL Go.PM Go.Proofs.YtpkbgamoboojaaaGreat
section
variable {H : Type} {enc : TypeId × Value -> H} {W : World} {spare : Nat -> Bool} {held : Bool} {B : Nat}
theorem open_fields {P : Program} {t fuel : Nat} {cs : List Value} {x : DataW H × List MemPlace} {fs : Array Field} (ht : P.underlying t = some (.struct fs)) (h : DataW.trod enc P W 0 spare held fuel t cs = some x) (hw : (x.1.weights P t).all (· <= B) = true) :
  ∃ n, fuel = n + 1 /\ cs.length = P.cellsOf t /\ ∀ (i : Nat) ft off, (fs[i]?).map (λ f => (f.type, f.offset)) = some (ft, off) -> ∃ y, DataW.trod enc P W 0 spare held n ft ((cs.drop off).take (P.cellsOf ft)) = some y /\ (y.1.weights P ft).all (· <= B) = true := by
 obtain ⟨xs, n, hn, rfl, hl, hxl, hf⟩ := DataW.trod_struct ht h
 refine ⟨n, hn, hl, λ i ft off hi0 => ?_⟩
 obtain ⟨f, hi, he⟩ := Option.map_eq_some_iff.1 hi0
 injection he with he1 he2
 subst he1
 subst he2
 have hlt := (Array.getElem?_eq_some_iff.1 hi).1
 have h1 : xs[i]? = some (xs[i]'(by omega)) := List.getElem?_eq_getElem _
 refine ⟨_, (hf i f hi).trans h1, ?_⟩
 simp only [DataW.weights, ht] at hw
 refine wEach_get hw i f.type _ ?_ ?_
 .rw [List.getElem?_map]
  have : fs.toList[i]? = some f := by simpa using hi
  rw [this]
  rfl
 rw [List.getElem?_map, h1]
 rfl
theorem four {cs : List Value} (h : cs.length = 4) : ∃ a b c d, cs = [a, b, c, d] := by
 match cs, h with
 | [a, b, c, d], _ => exact ⟨a, b, c, d, rfl⟩
theorem three {cs : List Value} (h : cs.length = 3) : ∃ a b c, cs = [a, b, c] := by
 match cs, h with
 | [a, b, c], _ => exact ⟨a, b, c, rfl⟩
theorem two {cs : List Value} (h : cs.length = 2) : ∃ a b, cs = [a, b] := by
 match cs, h with
 | [a, b], _ => exact ⟨a, b, rfl⟩
theorem c3 : Tryz.prog.cellsOf 3 = 1 := by kernel_rfl
theorem c9 : Tryz.prog.cellsOf 9 = 1 := by kernel_rfl
theorem c25 : Tryz.prog.cellsOf 24 = 1 := by kernel_rfl
theorem c57 : Tryz.prog.cellsOf 93 = 1 := by kernel_rfl
theorem c60 : Tryz.prog.cellsOf 90 = 1 := by kernel_rfl
theorem c30 : Tryz.prog.cellsOf 75 = 4 := by kernel_rfl
theorem c152 : Tryz.prog.cellsOf 223 = 4 := by kernel_rfl
theorem c59 : Tryz.prog.cellsOf 95 = 2 := by kernel_rfl
theorem c62 : Tryz.prog.cellsOf 92 = 3 := by kernel_rfl
theorem b152 : Tryz.prog.bytesOf 223 = 56 := by kernel_rfl
theorem str_rep (m : Mem) (s : ByteArray) : Rep m (.str s.data.toList) (.string s) := by
 show Value.string s = .string ⟨s.data.toList.toArray⟩
 rw [Array.toArray_toList]
theorem open_pat : ∀ (fuel : Nat) (cs : List Value) (x : DataW H × List MemPlace), DataW.trod enc Tryz.prog W 0 spare held fuel 75 cs = some x -> (x.1.weights Tryz.prog 75).all (· <= B) = true -> ∃ p : Pat, RC (memOf W) (patV p) cs := by
 intro fuel
 induction fuel using Nat.strongRecOn with
 | _ fuel ih =>
  intro cs x h hw
  obtain ⟨n, rfl, hl, hf⟩ := open_fields Tryz.underlying75 h hw
  rw [c30] at hl
  obtain ⟨v0, v1, v2, v3, rfl⟩ := four hl
  obtain ⟨y0, h0, _⟩ := hf 0 3 0 rfl
  obtain ⟨y1, h1, _⟩ := hf 1 9 1 rfl
  obtain ⟨y2, h2, _⟩ := hf 2 3 2 rfl
  obtain ⟨y3, h3, w3⟩ := hf 3 24 3 rfl
  rw [c3] at h0 h2
  rw [c9] at h1
  rw [c25] at h3
  obtain ⟨k, e0, _⟩ := DataW.trod_int Tryz.underlying3 h0
  obtain ⟨s, e1, _⟩ := DataW.trod_string Tryz.underlying9 h1
  obtain ⟨q, e2, _⟩ := DataW.trod_int Tryz.underlying3 h2
  obtain ⟨al, v, e3, hv1, hv, _⟩ := open_sl (sz := 4) patV Tryz.underlying24 c30 (by omega) h3 w3 λ n' cs' y hn' hy hwy => ih n' (by omega) cs' y hy hwy
  simp at e0 e1 e2 e3
  subst e0
  subst e1
  subst e2
  subst e3
  refine ⟨.mk k s.data.toList q al, .agg #[.int .i64 k, .string s, .int .i64 q, v3], ?_, rfl, ?_⟩
  .rw [patV_eq]
   exact ⟨rfl, _, rfl, _, _, rfl, rfl, _, _, rfl, str_rep _ s, _, _, rfl, rfl, _, _, rfl, hv, rfl⟩
  intro c hc
  simp at hc
  rcases hc with rfl | rfl | rfl | rfl
  .rfl
  .rfl
  .rfl
  exact hv1
instance : Inhabited V := ⟨.raw undef⟩
instance : Inhabited ConSig := ⟨⟨[], []⟩⟩
instance : Inhabited DataSig := ⟨⟨[], 0, []⟩⟩
theorem open_type (fuel : Nat) (cs : List Value) (x : DataW H × List MemPlace) (h : DataW.trod enc Tryz.prog W 0 spare held fuel 223 cs = some x) (hw : (x.1.weights Tryz.prog 223).all (· <= B) = true) : ∃ p : V, RC (memOf W) p cs := by
 obtain ⟨n, rfl, hl, hf⟩ := open_fields Tryz.underlying223 h hw
 rw [c152] at hl
 obtain ⟨v0, v1, v2, v3, rfl⟩ := four hl
 obtain ⟨y0, h0, _⟩ := hf 0 3 0 rfl
 obtain ⟨y1, h1, _⟩ := hf 1 9 1 rfl
 obtain ⟨y2, h2, _⟩ := hf 2 3 2 rfl
 obtain ⟨y3, h3, w3⟩ := hf 3 93 3 rfl
 rw [c3] at h0 h2
 rw [c9] at h1
 rw [c57] at h3
 obtain ⟨k, e0, _⟩ := DataW.trod_int Tryz.underlying3 h0
 obtain ⟨s, e1, _⟩ := DataW.trod_string Tryz.underlying9 h1
 obtain ⟨q, e2, _⟩ := DataW.trod_int Tryz.underlying3 h2
 have e3 : v3.oneCell' = true := by
  rcases DataW.trod_slice Tryz.underlying93 h3 with ⟨e, _⟩ | ⟨a, len, cap, elems, rest, n, _, e, _⟩ <;> simp at e <;> subst e <;> rfl
 simp at e0 e1 e2
 subst e0
 subst e1
 subst e2
 refine ⟨.agg [.raw (.int .i64 k), .raw (.string s), .raw (.int .i64 q), .raw v3], .agg #[.int .i64 k, .string s, .int .i64 q, v3], ⟨?_, _, rfl, _, _, rfl, rfl, _, _, rfl, rfl, _, _, rfl, rfl, _, _, rfl, rfl, rfl⟩, rfl, ?_⟩
 .have h5 : ([V.raw (.int .i64 k), V.raw (.string s), V.raw (.int .i64 q), V.raw v3] : List V).all V.leaf = true := by
   rw [Ya, Ya, Ya, Ya]
   show (true && (true && (true && (v3.oneCell' && true)))) = true
   rw [e3]
   rfl
  exact h5
 intro c hc
 simp at hc
 rcases hc with rfl | rfl | rfl | rfl
 .rfl
 .rfl
 .rfl
 exact e3
theorem open_con (fuel : Nat) (cs : List Value) (x : DataW H × List MemPlace) (h : DataW.trod enc Tryz.prog W 0 spare held fuel 95 cs = some x) (hw : (x.1.weights Tryz.prog 95).all (· <= B) = true) : ∃ p : { c : ConSig // c.args.length * 56 <= B }, RC (memOf W) (conV p.1) cs := by
 obtain ⟨n, rfl, hl, hf⟩ := open_fields Tryz.underlying95 h hw
 rw [c59] at hl
 obtain ⟨v0, v1, rfl⟩ := two hl
 obtain ⟨y0, h0, _⟩ := hf 0 9 0 rfl
 obtain ⟨y1, h1, w1⟩ := hf 1 93 1 rfl
 rw [c9] at h0
 rw [c57] at h1
 obtain ⟨s, e0, _⟩ := DataW.trod_string Tryz.underlying9 h0
 obtain ⟨al, v, e1, hv1, hv, hb⟩ := open_sl (sz := 4) (λ v : V => v) Tryz.underlying93 c152 (by omega) h1 w1 λ n' cs' y hn' hy hwy => open_type n' cs' y hy hwy
 rw [b152] at hb
 rw [List.map_id'] at hv
 simp at e0 e1
 subst e0
 subst e1
 refine ⟨⟨⟨s.data.toList, al⟩, hb⟩, .agg #[.string s, v1], ⟨rfl, _, rfl, _, _, rfl, str_rep _ s, _, _, rfl, hv, rfl⟩, rfl, ?_⟩
 intro c hc
 simp at hc
 rcases hc with rfl | rfl
 .rfl
 exact hv1
theorem open_data (fuel : Nat) (cs : List Value) (x : DataW H × List MemPlace) (h : DataW.trod enc Tryz.prog W 0 spare held fuel 92 cs = some x) (hw : (x.1.weights Tryz.prog 92).all (· <= B) = true) : ∃ p : { d : DataSig // ∀ k ∈ d.cons, k.args.length * 56 <= B }, RC (memOf W) (dataV p.1) cs := by
 obtain ⟨n, rfl, hl, hf⟩ := open_fields Tryz.underlying92 h hw
 rw [c62] at hl
 obtain ⟨v0, v1, v2, rfl⟩ := three hl
 obtain ⟨y0, h0, _⟩ := hf 0 9 0 rfl
 obtain ⟨y1, h1, _⟩ := hf 1 3 1 rfl
 obtain ⟨y2, h2, w2⟩ := hf 2 90 2 rfl
 rw [c9] at h0
 rw [c3] at h1
 rw [c60] at h2
 obtain ⟨s, e0, _⟩ := DataW.trod_string Tryz.underlying9 h0
 obtain ⟨k, e1, _⟩ := DataW.trod_int Tryz.underlying3 h1
 haveI : Inhabited { c : ConSig // c.args.length * 56 <= B } := ⟨⟨⟨[], []⟩, by simp⟩⟩
 obtain ⟨cons, v, e2, hv1, hv, _⟩ := open_sl (sz := 2) (λ c : { c : ConSig // c.args.length * 56 <= B } => conV c.1) Tryz.underlying90 c59 (by omega) h2 w2 λ n' cs' y hn' hy hwy => open_con n' cs' y hy hwy
 simp at e0 e1 e2
 subst e0
 subst e1
 subst e2
 refine ⟨⟨⟨s.data.toList, k, cons.map (·.1)⟩, ?_⟩, .agg #[.string s, .int .i64 k, v2], ?_, rfl, ?_⟩
 .intro c hc
  obtain ⟨c', _, rfl⟩ := List.mem_map.1 hc
  exact c'.2
 .have hv' : Rep (memOf W) (.sl 2 none ((cons.map (·.1)).map conV)) v2 := by rw [List.map_map]; exact hv
  exact ⟨rfl, _, rfl, _, _, rfl, str_rep _ s, _, _, rfl, rfl, _, _, rfl, hv', rfl⟩
 intro c hc
 simp at hc
 rcases hc with rfl | rfl | rfl
 .rfl
 .rfl
 exact hv1
theorem open_datas {fuel : Nat} {v : Value} {x : DataW H × List MemPlace} (h : DataW.trod enc Tryz.prog W 0 spare held fuel 22 v.cells.toList = some x) (hw : (x.1.weights Tryz.prog 22).all (· <= reachBytes) = true) (hv : v.cells.toList = [v]) : ∃ ds : List DataSig, Sized ds /\ Rep (memOf W) (datasX ds) v := by
 haveI : Inhabited { d : DataSig // ∀ k ∈ d.cons, k.args.length * 56 <= reachBytes } := ⟨⟨⟨[], 0, []⟩, λ k hk => by cases hk⟩⟩
 obtain ⟨l, u, e, _, hr, _⟩ := open_sl (sz := 3) (λ c : { d : DataSig // ∀ k ∈ d.cons, k.args.length * 56 <= reachBytes } => dataV c.1) Tryz.underlying22 c62 (by omega) h hw λ n' cs' y hn' hy hwy => open_data n' cs' y hy hwy
 rw [hv] at e
 injection e with e
 subst e
 refine ⟨l.map (·.1), λ d hd k hk => ?_, by rw [datasX, List.map_map]; exact hr⟩
 obtain ⟨d', _, rfl⟩ := List.mem_map.1 hd
 have := d'.2 k hk
 unfold reachBytes at this
 omega
theorem open_pats {fuel : Nat} {v : Value} {x : DataW H × List MemPlace} (h : DataW.trod enc Tryz.prog W 0 spare held fuel 24 v.cells.toList = some x) (hw : (x.1.weights Tryz.prog 24).all (· <= reachBytes) = true) (hv : v.cells.toList = [v]) : ∃ ps : List Pat, Rep (memOf W) (patsX ps) v := by
 obtain ⟨al, u, e, _, hr, _⟩ := open_sl (sz := 4) patV Tryz.underlying24 c30 (by omega) h hw λ n' cs' y hn' hy hwy => open_pat n' cs' y hy hwy
 rw [hv] at e
 injection e with e
 subst e
 exact ⟨al, hr⟩
theorem open_rows {fuel : Nat} {v : Value} {x : DataW H × List MemPlace} (h : DataW.trod enc Tryz.prog W 0 spare held fuel 23 v.cells.toList = some x) (hw : (x.1.weights Tryz.prog 23).all (· <= reachBytes) = true) (hv : v.cells.toList = [v]) : ∃ rows : List (List Pat), Rep (memOf W) (rowsX rows) v := by
 obtain ⟨l, u, e, _, hr, _⟩ := open_sl (sz := 1) (λ r : List Pat => patsX r) Tryz.underlying23 c25 (by omega) h hw λ n' cs' y hn' hy hwy => by
  obtain ⟨al, u, e, hu, hv, _⟩ := open_sl (sz := 4) patV Tryz.underlying24 c30 (by omega) hy hwy λ n2 cs2 y2 _ hy2 hwy2 => open_pat n2 cs2 y2 hy2 hwy2
  subst e
  exact ⟨al, u, hv, by rw [cells_oneCell hu], λ c hc => by rw [List.mem_singleton.1 hc]; exact hu⟩
 rw [hv] at e
 injection e with e
 subst e
 exact ⟨l, hr⟩
end
end Go.Proofs.YtpkbgamoboojaaaGreat.VG2
