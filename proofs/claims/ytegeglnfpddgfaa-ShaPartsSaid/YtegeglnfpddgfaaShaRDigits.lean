/- Numbers of several digits in memory; the walks of the document's digits, times, above. -/
import Derived.Test.YtegeglnfpddgfaaShaRPrime
namespace Go.Proofs.Ytegeglnfpddgfaa
open Go.RowKit

def u64v (n : Nat) : Value := .int .u64 (n : Int)
def arrU (l : List Nat) : Array Value := (l.map u64v).toArray
theorem arrU_size (l : List Nat) : (arrU l).size = l.length := by simp [arrU]
theorem arrU_at {l : List Nat} {j : Nat} (hj : j < l.length) : (arrU l)[j]? = some (.int .u64 ((l.getD j 0 : Nat) : Int)) := by
  unfold arrU
  simp [List.getD, hj, u64v]
theorem arrU_set (l : List Nat) (j v : Nat) : (arrU l).setIfInBounds j (.int .u64 (v : Int)) = arrU (l.set j v) := by
  unfold arrU
  rw [List.setIfInBounds_toArray, List.map_set]; rfl
/-- The block g holds the digits l. -/
def DgAt (w : World) (g : Nat) (l : List Nat) : Prop := w.heap[g]? = some (.cells (arrU l) 48 (0, 0))
section
variable {w w' : World} {g : Nat} {l : List Nat}
theorem DgAt.lt (h : DgAt w g l) : g < w.heap.size := (Array.getElem?_eq_some_iff.1 h).1
theorem DgAt.cell (h : DgAt w g l) {j : Nat} (hj : j < l.length) : w.cell? ⟨g, j, none⟩ = some (.int .u64 ((l.getD j 0 : Nat) : Int)) := by
  rw [cell_of_row w g j _ _ _ h]; exact arrU_at hj
theorem DgAt.free (h : DgAt w g l) (j : Nat) : w.frozen? ⟨g, j, none⟩ = false := frozen_of_row w g j _ _ h
theorem DgAt.set (h : DgAt w g l) (j v : Nat) : DgAt (w.setCell ⟨g, j, none⟩ (.int .u64 (v : Int))) g (l.set j v) := by
  unfold DgAt
  rw [heap_setCell_same w g j _ _ _ h, arrU_set]
theorem DgAt.kept (h : DgAt w g l) {U : Nat → Prop} (hk : Kept U w w') (hU : ¬ U g) : DgAt w' g l := by
  unfold DgAt
  rw [hk.block g h.lt hU]; exact h
theorem DgAt.below (h : DgAt w g l) (hb : Below w.heap.size w w') : DgAt w' g l := by
  unfold DgAt
  rw [hb.block g h.lt]; exact h
theorem DgAt.later (h : DgAt w g l) {B : Nat} (hb : Below B w w') (hg : g < B) : DgAt w' g l := by
  unfold DgAt
  rw [hb.block g hg]; exact h
end
def Small (l : List Nat) : Prop := ∀ v ∈ l, v < 18446744073709551616
theorem Small.at {l : List Nat} (h : Small l) (k : Nat) : l.getD k 0 < 18446744073709551616 := by
  by_cases hk : k < l.length
  · have e : l.getD k 0 = l[k] := by simp [List.getD, hk]
    rw [e]; exact h _ (List.getElem_mem hk)
  · simp [List.getD, List.getElem?_eq_none (l := l) (i := k) (by omega)]
theorem Small.set {l : List Nat} (h : Small l) (k v : Nat) (hv : v < 18446744073709551616) : Small (l.set k v) := fun x hx => by
  rcases List.mem_or_eq_of_mem_set hx with h1 | rfl
  · exact h x h1
  · exact hv
theorem Small.zeros (n : Nat) : Small (List.replicate n 0) := fun v hv => by rw [(List.mem_replicate.1 hv).2]; omega

set_option maxRecDepth 100000 in
theorem digits_any (v : Nat) (w : World) (hv : v < 18446744073709551616) :
    Calls Try.prog 32 #[.int .u64 (v : Int)] w fun e w' => ∃ g, e = .returned (.slice (some ⟨g, 0, none⟩) 3 3) ∧ w.heap.size ≤ g ∧ DgAt w' g (digitsN v) ∧ Below w.heap.size w w' := by
  have HS : Hid (DgAt (w.alloc (.cells #[.int .u64 ((v : Int) % 65536), .int .u64 ((v : Int) / 65536 % 65536), .int .u64 ((v : Int) / 4294967296 % 65536)] 48)) w.heap.size (digitsN v)) := by
    show DgAt _ _ _
    unfold DgAt
    rw [heap_alloc_new]
    rfl
  go_enter Try.func32, Try.ntmps32
  go_wp2
  go_ret
  exact ⟨_, rfl, Nat.le_refl _, HS.out, (Below.refl _ _).alloc (Nat.le_refl _) _⟩
end Go.Proofs.Ytegeglnfpddgfaa
