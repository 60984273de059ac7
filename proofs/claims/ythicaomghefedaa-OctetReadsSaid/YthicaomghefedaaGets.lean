/- A slice of structs Get, opened. -/
import Derived.Test.YthicaomghefedaaOpen
import Derived.Test.YthicaomghefedaaOwn
import Derived.Deep.Fields
namespace Go.Proofs.Ythicaomghefedaa
open Go.ChangeShapes Go.WideShapes Go.ChangeAt Go.RowKit Go.Deep

/-- The slice of Gets that begins at a reads as the list ls. -/
structure Gs (w : World) (a : Option Addr) (cap : Nat) (ls : List (Bool × Int)) : Prop where
  le : ls.length ≤ cap
  top : cap ≤ 9223372036854775807
  cells : ls = [] ∨ ∃ b off, a = some ⟨b, off, none⟩ ∧ ∀ i, i < ls.length →
    w.cell? ⟨b, off + i * 2, none⟩ = some (.bool (ls.getD i (false, 0)).1) ∧ w.cell? ⟨b, off + i * 2 + 1, none⟩ = some (.int .i64 (ls.getD i (false, 0)).2) ∧
    -9223372036854775808 ≤ (ls.getD i (false, 0)).2 ∧ (ls.getD i (false, 0)).2 ≤ 9223372036854775807

theorem Gs.at {w : World} {a : Option Addr} {cap : Nat} {ls : List (Bool × Int)} (h : Gs w a cap ls) {k : Nat} (hk : k < ls.length) :
    ∃ b off, a = some ⟨b, off, none⟩ ∧ w.cell? ⟨b, off + k * 2, none⟩ = some (.bool (ls.getD k (false, 0)).1) ∧ w.cell? ⟨b, off + k * 2 + 1, none⟩ = some (.int .i64 (ls.getD k (false, 0)).2) ∧
    -9223372036854775808 ≤ (ls.getD k (false, 0)).2 ∧ (ls.getD k (false, 0)).2 ≤ 9223372036854775807 := by
  rcases h.cells with h0 | ⟨b, off, ha, h0⟩
  · subst h0; simp at hk
  · exact ⟨b, off, ha, h0 k hk⟩
theorem Gs.fits {w : World} {a : Option Addr} {cap : Nat} {ls : List (Bool × Int)} (h : Gs w a cap ls) {n : Nat} (hn : n = ls.length) : n ≤ 9223372036854775807 := by
  have := h.le; have := h.top; omega
theorem Gs.below {w w' : World} {a : Option Addr} {cap : Nat} {ls : List (Bool × Int)} (h : Gs w a cap ls) (hb : Below w.heap.size w w') : Gs w' a cap ls := by
  refine ⟨h.le, h.top, ?_⟩
  rcases h.cells with h0 | ⟨b, off, ha, h0⟩
  · exact .inl h0
  · refine .inr ⟨b, off, ha, fun i hi => ?_⟩
    obtain ⟨h1, h2, h3⟩ := h0 i hi
    exact ⟨by rw [hb.cell (World.block_lt_of_cell? w _ h1)]; exact h1, by rw [hb.cell (World.block_lt_of_cell? w _ h2)]; exact h2, h3⟩

theorem cells_get : Try.prog.cellsOf 28 = 2 := by kernel_rfl

theorem addr_add0 (x : Addr) : x.add 0 = x := by
  obtain ⟨b, o, sp⟩ := x
  cases sp <;> simp [Addr.add]

section
variable {H : Type} {enc : TypeId × Value → H} {W : World} {base : Nat} {spare : Nat → Bool} {held : Bool}

theorem open_gets {fuel : Nat} {a : Option Addr} {len cap : Nat} {x : DataW H × List MemPlace} (h : DataW.trod enc Try.prog W base spare held fuel 23 [.slice a len cap] = some x) :
    ∃ ls : List (Bool × Int), len = ls.length ∧ Gs W a cap ls := by
  rcases open_slice Try.underlying23 h with ⟨hcs, _⟩ | ⟨x, l, c, m, n, D, Pl, hcs, _, hl, hm, hmm, _, hel⟩
  · simp at hcs
    obtain ⟨rfl, rfl, rfl⟩ := hcs
    exact ⟨[], rfl, Nat.le_refl _, by omega, .inl rfl⟩
  · simp at hcs
    obtain ⟨rfl, rfl, rfl⟩ := hcs
    have hlm : len ≤ m := by rw [hmm]; split <;> omega
    have each : ∀ i, i < len → ∃ y : Bool × Int, W.cell? (x.add (i * 2)) = some (.bool y.1) ∧ W.cell? ((x.add (i * 2)).add 1) = some (.int .i64 y.2) ∧ -9223372036854775808 ≤ y.2 ∧ y.2 ≤ 9223372036854775807 := by
      intro i hi
      obtain ⟨cs', hc, ht⟩ := hel i (by omega)
      rw [cells_get] at hc
      obtain ⟨_, hcl, hat⟩ := World.cells?_some hc
      obtain ⟨ys, n', _, _, hlen, hyl, hf⟩ := DataW.trod_struct Try.underlying28 ht
      match cs', hcl with
      | [c0, c1], _ =>
        have h0 : DataW.trod enc Try.prog W base spare held n' 4 (List.take (Try.prog.cellsOf 4) (List.drop 0 [c0, c1])) = ys[0]? := hf 0 _ rfl
        have h1 : DataW.trod enc Try.prog W base spare held n' 3 (List.take (Try.prog.cellsOf 3) (List.drop 1 [c0, c1])) = ys[1]? := hf 1 _ rfl
        have hy0 : ys[0]? = some (ys[0]'(by rw [hyl]; decide)) := List.getElem?_eq_getElem _
        have hy1 : ys[1]? = some (ys[1]'(by rw [hyl]; decide)) := List.getElem?_eq_getElem _
        rw [hy0] at h0
        rw [hy1] at h1
        obtain ⟨bb, hb, _⟩ := DataW.trod_bool Try.underlying4 h0
        obtain ⟨z, hz, _, hw⟩ := DataW.trod_int Try.underlying3 h1
        rw [show Try.prog.cellsOf 4 = 1 by kernel_rfl] at hb
        rw [show Try.prog.cellsOf 3 = 1 by kernel_rfl] at hz
        simp at hb hz
        have hbd := bounds_i64 hw
        exact ⟨(bb, z), by rw [← hb]; have := hat 0 (by omega); simpa [addr_add0] using this, by rw [← hz]; exact hat 1 (by omega), hbd.1, hbd.2⟩
    obtain ⟨F, hF⟩ := choose_lt each
    have hlen : ((List.range len).map F).length = len := by simp
    refine ⟨(List.range len).map F, hlen.symm, ⟨by rw [hlen]; exact hl, by unfold maxLen at hm; omega, ?_⟩⟩
    by_cases h0 : len = 0
    · left; subst h0; rfl
    right
    obtain ⟨b, off, spot⟩ := x
    have hc0 := (hF 0 (by omega)).1
    have hspot : spot = none := by simpa [Addr.add] using World.cell?_spot hc0
    subst hspot
    refine ⟨b, off, rfl, fun i hi => ?_⟩
    rw [hlen] at hi
    obtain ⟨h1, h2, h3⟩ := hF i hi
    rw [addr_add] at h1 h2
    rw [addr_add] at h2
    have e : ((List.range len).map F).getD i (false, 0) = F i := by simp [List.getD, hi]
    rw [e]
    exact ⟨h1, h2, h3⟩
end
end Go.Proofs.Ythicaomghefedaa
