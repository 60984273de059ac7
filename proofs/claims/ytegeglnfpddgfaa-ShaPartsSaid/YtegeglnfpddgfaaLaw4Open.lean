/- From the reading of an array of eight words as data to what the walk asks. -/
import Derived.Test.YtegeglnfpddgfaaOpen
import Derived.Test.YtegeglnfpddgfaaShaArr
namespace Go.Proofs.Ytegeglnfpddgfaa
open Go.ChangeShapes Go.WideShapes Go.ChangeAt Go.RowKit Go.Deep

theorem okWide_arr8 {W : World} {r : Reach} {b0 : Nat} {v : Value} (h : Value.okWide Try.prog W r b0 29 v) : ∃ xs : Array Value, v = .agg xs ∧ xs.size = 8 := by
  simp only [Value.okWide, under_8] at h
  obtain ⟨cs, h1, h2, _⟩ := h
  exact ⟨cs, h1, by rw [h2]; kernel_rfl⟩
theorem mapM_each {α β : Type} {f : α → Option β} : ∀ (L : List α) (ys : List β), L.mapM f = some ys → ∀ i ∈ L, ∃ y, f i = some y
  | [], _, _, i, hi => by simp at hi
  | a :: L, ys, h, i, hi => by
    rw [List.mapM_cons] at h
    simp only [bind, Option.bind_eq_some_iff, pure, Option.some.injEq] at h
    obtain ⟨y, hy, ys', hys, rfl⟩ := h
    rcases List.mem_cons.1 hi with rfl | hi
    · exact ⟨y, hy⟩
    · exact mapM_each L ys' hys i hi
theorem cells_u32 : Try.prog.cellsOf 28 = 1 := by kernel_rfl
section
variable {H : Type} {enc : TypeId × Value → H} {W : World} {base : Nat} {spare : Nat → Bool} {held : Bool}
theorem open_w8 {fuel : Nat} {xs : Array Value} {x : DataW H × List MemPlace} (hn : xs.size = 8) (hf : DataW.trod enc Try.prog W base spare held fuel 29 xs.toList = some x) :
    ∃ s : List Nat, Is8 s ∧ xs = arr s := by
  cases fuel with
  | zero => simp [DataW.trod] at hf
  | succ m =>
    rw [DataW.trod_step] at hf
    unfold DataW.trodStep at hf
    simp only [under_8] at hf
    split at hf
    · simp only [Option.map_eq_some_iff] at hf
      obtain ⟨ys, hy, e1⟩ := hf
      have each : ∀ i, i < 8 → ∃ t : Nat, t < 4294967296 ∧ xs[i]? = some (u32v t) := by
        intro i hi
        obtain ⟨y, h1⟩ := mapM_each _ _ hy i (by simpa using hi)
        obtain ⟨a, ea, _, wa⟩ := DataW.trod_int Try.underlying28 h1
        obtain ⟨t, rfl, ht⟩ := wf_u32 wa
        refine ⟨t, ht, ?_⟩
        rw [cells_u32, Nat.mul_one] at ea
        rw [← Array.getElem?_toList]
        have h3 : (xs.toList.drop i).head? = some (.int .u32 (t : Int)) := by
          have h4 := congrArg List.head? ea
          rw [List.head?_take] at h4
          simpa using h4
        rw [List.head?_drop] at h3
        exact h3
      obtain ⟨F, hF⟩ := choose_lt each
      refine ⟨(List.range 8).map F, ⟨by simp, fun v hv => ?_⟩, ?_⟩
      · obtain ⟨i, hi, rfl⟩ := List.mem_map.1 hv
        exact (hF i (by simpa using hi)).1
      · apply Array.ext'
        apply List.ext_getElem?
        intro i
        rw [Array.getElem?_toList]
        by_cases hi : i < 8
        · rw [(hF i hi).2]
          simp [arr, hi]
        · rw [Array.getElem?_eq_none (by omega)]
          symm
          apply List.getElem?_eq_none
          rw [Array.length_toList, arr_size, List.length_map, List.length_range]; omega
    · cases hf
end
end Go.Proofs.Ytegeglnfpddgfaa
