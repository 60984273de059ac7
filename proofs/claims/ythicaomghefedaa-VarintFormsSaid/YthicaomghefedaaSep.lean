/- A slice of the call's own that lies apart from a writer. -/
import Derived.Test.YthicaomghefedaaOctetW
namespace Go.Proofs.Ythicaomghefedaa
open Go.RowKit

/-- The row of va is neither the writer's block p nor its row (that of x). -/
def Sep (va : Value) (p : Nat) (x : Value) : Prop := ∀ k, va.ownBlock = some k → k ≠ p ∧ x.ownBlock ≠ some k

theorem Sep.writer {va : Value} {p : Nat} {x x' : Value} {w : World} (h : Sep va p x) (hn : Near w x x') (hlt : ∀ k, va.ownBlock = some k → k < w.heap.size) : Sep va p x' := fun k hk => by
  refine ⟨(h k hk).1, fun e => ?_⟩
  rcases hn k e with h1 | h1
  · exact (h k hk).2 h1
  · have := hlt k hk; omega
theorem Sep.grow {va va' : Value} {p : Nat} {x : Value} {w : World} (h : Sep va p x) (hn : Near w va va') (hp : p < w.heap.size) (hx : ∀ k, x.ownBlock = some k → k < w.heap.size) : Sep va' p x := fun k hk => by
  rcases hn k hk with h1 | h1
  · exact h k h1
  · exact ⟨by omega, fun e => by have := hx k e; omega⟩

theorem Sep.foot {va : Value} {p : Nat} {x : Value} (h : Sep va p x) : ∀ k, va.ownBlock = some k → ¬ WFoot p x k := fun k hk hf => by
  rcases hf with rfl | hf
  · exact (h _ hk).1 rfl
  · exact (h k hk).2 hf
theorem Wr.grow {base : Nat} {w w' : World} {p : Nat} {x va : Value} {B : List UInt8} (h : Wr base w p x B) (hs : Sep va p x) (hg : w.grownBy w' va.ownBlock) : Wr base w' p x B :=
  h.kept (T := fun k => va.ownBlock = some k) (Kept.grown hg fun _ hk => hk) (fun e => (hs p e).1 rfl) (fun k' hk e => (hs k' e).2 hk)
end Go.Proofs.Ythicaomghefedaa
