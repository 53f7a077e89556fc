import Derived.Test.YtmmmgamhffbkbaaVT
import Derived.Test.YtmmmgamhffbkbaaS2
import Derived.Test.YtmmmgamhffbkbaaVM
import Derived.Test.YtmmmgamhffbkbaaDZ
import Derived.Test.YtmmmgamhffbkbaaX1
import Derived.Test.YtmmmgamhffbkbaaX2
import Derived.Test.YtmmmgamhffbkbaaX3
import Derived.Test.YtmmmgamhffbkbaaX4
import Derived.Test.YtmmmgamhffbkbaaX5
import Derived.Test.YtmmmgamhffbkbaaX6
import Derived.Test.YtmmmgamhffbkbaaX7
import Derived.Test.YtmmmgamhffbkbaaX8
import Derived.Test.YtmmmgamhffbkbaaX9
import Derived.Test.YtmmmgamhffbkbaaX10
import Derived.Test.YtmmmgamhffbkbaaXW
import Derived.Test.YtmmmgamhffbkbaaX25
set_option linter.unusedVariables false
set_option linter.unusedSimpArgs false
namespace Go.Proofs.Ytmmmgamhffbkbaa.X26
open Go.VL Go.SM Go.Proofs.Ytmmmgamhffbkbaa Go.Proofs.Ytmmmgamhffbkbaa.X1 Go.Proofs.Ytmmmgamhffbkbaa.X2 Go.Proofs.Ytmmmgamhffbkbaa.X3 Go.Proofs.Ytmmmgamhffbkbaa.X4 Go.Proofs.Ytmmmgamhffbkbaa.X5 Go.Proofs.Ytmmmgamhffbkbaa.X6 Go.Proofs.Ytmmmgamhffbkbaa.X7 Go.Proofs.Ytmmmgamhffbkbaa.X8 Go.Proofs.Ytmmmgamhffbkbaa.X9 Go.Proofs.Ytmmmgamhffbkbaa.X10 Go.Proofs.Ytmmmgamhffbkbaa.XW Go.Proofs.Ytmmmgamhffbkbaa.X25
def reE (at_ : List Int) (e : SEdge) : SEdge := ⟨gI at_ e.block, e.args⟩
def blk (f : SFunc) (v : Nat) : SBlock := f.blocks[v]?.getD default
structure PInv (f : SFunc) (rows rows2 : List (Option XRow)) (i : Nat) : Prop where
  len : rows2.length = rows.length
  row : ∀ (v : Nat) (b : SBlock) (o o2 : Option XRow), f.blocks[v]? = some b → rows[v]? = some o → rows2[v]? = some o2 → xLeaf o2 = xLeaf o ∧ xOk 2 o2 ∧ xl o2 = (if v ∈ (reachN f).take i then b.term.to.map (reE (atF f)) else b.term.to).map edgeV
theorem cp_ok {f : SFunc} (h0 : funcF f = 0) : CpOk f := by
  have hok := func_ok h0
  have fi := func_iff.1 h0
  have hl := nodup_wi fi.kok.nodup fi.kok.wi
  rw [keysL] at hl
  have h128 := hok.len
  have hp : ∀ b ∈ f.blocks, b.params.length ≤ 4096 ∧ b.ins.length ≤ 4096 := fun b hb => by
    obtain ⟨s, t, e⟩ := List.append_of_mem hb
    rw [e, List.flatMap_append, List.flatMap_cons, List.length_append, List.length_append, List.length_map, dB, List.length_append, keysI_len, List.length_map] at hl
    omega
  refine ⟨by omega, fun b hb => ?_⟩
  obtain ⟨b1, b2⟩ := fi.block b hb
  have he := endF_ok b2
  have h1 := hp b hb
  have h2 := term_edges hok hb
  have h3 := he.many
  refine ⟨by omega, by omega, by omega, by omega, fun i hi => ?_, fun e hem => ?_⟩
  · have := (form_of (b1 i hi)).many
    omega
  · obtain ⟨x1, x2, x3⟩ := he.edges e hem
    obtain ⟨c, hc⟩ : ∃ c, f.blocks[e.block.toNat]? = some c := ⟨_, List.getElem?_eq_getElem (by omega)⟩
    have h4 := (hp c (List.mem_of_getElem? hc)).1
    unfold paramsOf at x3
    rw [hc] at x3
    have x3 : e.args.length = c.params.length := x3
    omega
theorem fits_es (l : List SEdge) : ∀ x ∈ l.map edgeV, x.fits 2 = true ∧ ((∃ ls, x = .agg ls) ∨ x.leaf = true) := fun x hx => by
  obtain ⟨n, _, rfl⟩ := List.mem_map.1 hx
  exact ⟨rfl, .inl ⟨_, rfl⟩⟩
theorem fits_bs (l : List SBlock) : ∀ x ∈ l.map blockV, x.fits 7 = true ∧ ((∃ ls, x = .agg ls) ∨ x.leaf = true) := fun x hx => by
  obtain ⟨n, _, rfl⟩ := List.mem_map.1 hx
  exact ⟨rfl, .inl ⟨_, rfl⟩⟩
end Go.Proofs.Ytmmmgamhffbkbaa.X26
