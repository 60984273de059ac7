/- A slice of structs Put, opened. -/
import Derived.Test.YthicaomghefedaaOpen
import Derived.Test.YthicaomghefedaaOwn
import Derived.Deep.Fields
namespace Go.Proofs.Ythicaomghefedaa
open Go.ChangeShapes Go.WideShapes Go.ChangeAt Go.RowKit Go.Deep

/-- What is put down: how many bytes, the number, the bytes. -/
structure PutN where
  n : Int
  v : Nat
  b : List UInt8
def PutN.zero : PutN := ⟨0, 0, []⟩
instance : Inhabited PutN := ⟨PutN.zero⟩

/-- The slice of Puts that begins at a reads as the list ls. -/
structure Ps (w : World) (a : Option Addr) (cap : Nat) (ls : List PutN) : Prop where
  le : ls.length ≤ cap
  top : cap ≤ 9223372036854775807
  cells : ls = [] ∨ ∃ b off, a = some ⟨b, off, none⟩ ∧ ∀ i, i < ls.length → ∃ ai ci,
    w.cell? ⟨b, off + i * 3, none⟩ = some (.int .i64 (ls.getD i PutN.zero).n) ∧ w.cell? ⟨b, off + i * 3 + 1, none⟩ = some (.int .u64 ((ls.getD i PutN.zero).v : Nat)) ∧
    w.cell? ⟨b, off + i * 3 + 2, none⟩ = some (.slice ai (ls.getD i PutN.zero).b.length ci) ∧ Bs w ai ci (ls.getD i PutN.zero).b ∧
    -9223372036854775808 ≤ (ls.getD i PutN.zero).n ∧ (ls.getD i PutN.zero).n ≤ 9223372036854775807 ∧ (ls.getD i PutN.zero).v < 18446744073709551616

theorem Ps.at {w : World} {a : Option Addr} {cap : Nat} {ls : List PutN} (h : Ps w a cap ls) {k : Nat} (hk : k < ls.length) :
    ∃ b off ai ci, a = some ⟨b, off, none⟩ ∧ w.cell? ⟨b, off + k * 3, none⟩ = some (.int .i64 (ls.getD k PutN.zero).n) ∧ w.cell? ⟨b, off + k * 3 + 1, none⟩ = some (.int .u64 ((ls.getD k PutN.zero).v : Nat)) ∧
    w.cell? ⟨b, off + k * 3 + 2, none⟩ = some (.slice ai (ls.getD k PutN.zero).b.length ci) ∧ Bs w ai ci (ls.getD k PutN.zero).b ∧
    -9223372036854775808 ≤ (ls.getD k PutN.zero).n ∧ (ls.getD k PutN.zero).n ≤ 9223372036854775807 ∧ (ls.getD k PutN.zero).v < 18446744073709551616 := by
  rcases h.cells with h0 | ⟨b, off, ha, h0⟩
  · subst h0; simp at hk
  · obtain ⟨ai, ci, h1⟩ := h0 k hk
    exact ⟨b, off, ai, ci, ha, h1⟩
theorem Ps.fits {w : World} {a : Option Addr} {cap : Nat} {ls : List PutN} (h : Ps w a cap ls) {n : Nat} (hn : n = ls.length) : n ≤ 9223372036854775807 := by
  have := h.le; have := h.top; omega
theorem Ps.below {w w' : World} {a : Option Addr} {cap : Nat} {ls : List PutN} (h : Ps w a cap ls) (hb : Below w.heap.size w w') : Ps w' a cap ls := by
  refine ⟨h.le, h.top, ?_⟩
  rcases h.cells with h0 | ⟨b, off, ha, h0⟩
  · exact .inl h0
  · refine .inr ⟨b, off, ha, fun i hi => ?_⟩
    obtain ⟨ai, ci, h1, h2, h3, h4, h5⟩ := h0 i hi
    exact ⟨ai, ci, by rw [hb.cell (World.block_lt_of_cell? w _ h1)]; exact h1, by rw [hb.cell (World.block_lt_of_cell? w _ h2)]; exact h2, by rw [hb.cell (World.block_lt_of_cell? w _ h3)]; exact h3, h4.below hb, h5⟩

theorem cells_put : Try.prog.cellsOf 39 = 3 := by kernel_rfl

section
variable {H : Type} {enc : TypeId × Value → H} {W : World} {base : Nat} {spare : Nat → Bool} {held : Bool}

theorem open_puts {fuel : Nat} {a : Option Addr} {len cap : Nat} {x : DataW H × List MemPlace} (h : DataW.trod enc Try.prog W base spare held fuel 34 [.slice a len cap] = some x) :
    ∃ ls : List PutN, len = ls.length ∧ Ps W a cap ls := by
  rcases open_slice Try.underlying34 h with ⟨hcs, _⟩ | ⟨x, l, c, m, n, D, Pl, hcs, _, hl, hm, hmm, _, hel⟩
  · simp at hcs
    obtain ⟨rfl, rfl, rfl⟩ := hcs
    exact ⟨[], rfl, Nat.le_refl _, by omega, .inl rfl⟩
  · simp at hcs
    obtain ⟨rfl, rfl, rfl⟩ := hcs
    have hlm : len ≤ m := by rw [hmm]; split <;> omega
    have each : ∀ i, i < len → ∃ y : PutN, ∃ ai ci, W.cell? ((x.add (i * 3)).add 0) = some (.int .i64 y.n) ∧ W.cell? ((x.add (i * 3)).add 1) = some (.int .u64 (y.v : Nat)) ∧
        W.cell? ((x.add (i * 3)).add 2) = some (.slice ai y.b.length ci) ∧ Bs W ai ci y.b ∧ -9223372036854775808 ≤ y.n ∧ y.n ≤ 9223372036854775807 ∧ y.v < 18446744073709551616 := by
      intro i hi
      obtain ⟨cs', hc, ht⟩ := hel i (by omega)
      rw [cells_put] at hc
      obtain ⟨_, hcl, hat⟩ := World.cells?_some hc
      obtain ⟨ys, n', _, _, hlen, hyl, hf⟩ := DataW.trod_struct Try.underlying39 ht
      match cs', hcl with
      | [c0, c1, c2], _ =>
        have h0 : DataW.trod enc Try.prog W base spare held n' 3 (List.take (Try.prog.cellsOf 3) (List.drop 0 [c0, c1, c2])) = ys[0]? := hf 0 _ rfl
        have h1 : DataW.trod enc Try.prog W base spare held n' 29 (List.take (Try.prog.cellsOf 29) (List.drop 1 [c0, c1, c2])) = ys[1]? := hf 1 _ rfl
        have h2 : DataW.trod enc Try.prog W base spare held n' 22 (List.take (Try.prog.cellsOf 22) (List.drop 2 [c0, c1, c2])) = ys[2]? := hf 2 _ rfl
        have hy0 : ys[0]? = some (ys[0]'(by rw [hyl]; decide)) := List.getElem?_eq_getElem _
        have hy1 : ys[1]? = some (ys[1]'(by rw [hyl]; decide)) := List.getElem?_eq_getElem _
        have hy2 : ys[2]? = some (ys[2]'(by rw [hyl]; decide)) := List.getElem?_eq_getElem _
        rw [hy0] at h0
        rw [hy1] at h1
        rw [hy2] at h2
        obtain ⟨z, hz, _, hw⟩ := DataW.trod_int Try.underlying3 h0
        obtain ⟨u, hu, _, hw1⟩ := DataW.trod_int Try.underlying29 h1
        rw [show Try.prog.cellsOf 3 = 1 by kernel_rfl] at hz
        rw [show Try.prog.cellsOf 29 = 1 by kernel_rfl] at hu
        rw [show Try.prog.cellsOf 22 = 1 by kernel_rfl] at h2
        simp at hz hu
        obtain ⟨ut, rfl, hut⟩ := wf_u64 hw1
        have h2' : DataW.trod enc Try.prog W base spare held n' 22 [c2] = some (ys[2]'(by rw [hyl]; decide)) := h2
        obtain ⟨ai, li, ci, hv⟩ := Joins.slice_form Try.underlying22 h2'
        simp at hv
        rw [hv] at h2'
        obtain ⟨p, hp, hb⟩ := open_bytes h2'
        have hbd := bounds_i64 hw
        exact ⟨⟨z, ut, p⟩, ai, ci, by rw [← hz]; exact hat 0 (by omega), by rw [← hu]; exact hat 1 (by omega), by rw [← hp, ← hv]; exact hat 2 (by omega), hb, hbd.1, hbd.2, hut⟩
    obtain ⟨F, hF⟩ := choose_lt each
    have hlen : ((List.range len).map F).length = len := by simp
    refine ⟨(List.range len).map F, hlen.symm, ⟨by rw [hlen]; exact hl, by unfold maxLen at hm; omega, ?_⟩⟩
    by_cases h0 : len = 0
    · left; subst h0; rfl
    right
    obtain ⟨b, off, spot⟩ := x
    obtain ⟨_, _, hc0, _⟩ := hF 0 (by omega)
    have hspot : spot = none := by simpa [Addr.add] using World.cell?_spot hc0
    subst hspot
    refine ⟨b, off, rfl, fun i hi => ?_⟩
    rw [hlen] at hi
    obtain ⟨ai, ci, h1, h2, h3, h4⟩ := hF i hi
    rw [addr_add, addr_add] at h1 h2 h3
    have e : ((List.range len).map F).getD i PutN.zero = F i := by simp [List.getD, hi]
    rw [e]
    exact ⟨ai, ci, h1, h2, h3, h4⟩
end
end Go.Proofs.Ythicaomghefedaa
