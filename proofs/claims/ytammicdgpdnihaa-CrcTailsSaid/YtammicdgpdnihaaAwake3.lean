/- The walk of repertorylaw03.awake: chapter 3's example holds. -/
import Derived.Test.YtammicdgpdnihaaCrc
import Derived.Lib.SlBytesConst
namespace Go.Proofs.Ytammicdgpdnihaa
open Go.RowKit

set_option maxHeartbeats 400000 in
theorem awake3 (w : World) : Calls Try.prog 14 #[] w fun e w' => e = .returned (.bool true) ∧ Below w.heap.size w w' := by
  have kc := fun (w : World) (C : Array Value) (n c : Nat) => Lib.run_convert_bytes_const (P := Try.prog) w 24 5 C n c Try.underlying24 Try.underlying5
  go_enter Try.func14, Try.ntmps14
  go_wp2_with fail
  refine (CrcOf_any _ [[49, 50, 51, 52, 53, 54, 55, 56, 57]] _ _ _ rfl ?_).mono ?_
  · refine Bss.one _ rfl (heap_alloc_at _ _ _ (by simp)) ?_
    exact Bs.lit (Eq.trans (Below.heap_alloc _ _ _ (by simp)) (heap_alloc_new _ _)) [49, 50, 51, 52, 53, 54, 55, 56, 57] rfl 9 (by decide) (by decide)
  rintro e w1 ⟨rfl, hb1⟩
  have e1 : sumN [49, 50, 51, 52, 53, 54, 55, 56, 57] = 3421780262 := by decide
  rw [show List.flatten [[49, 50, 51, 52, 53, 54, 55, 56, 57]] = ([49, 50, 51, 52, 53, 54, 55, 56, 57] : List UInt8) from rfl, e1]
  clear e1
  go_wp2_with fail
  refine (CrcOf_any _ [] _ _ _ rfl (Bss.none _ _ _ (by decide))).mono ?_
  rintro e w2 ⟨rfl, hb2⟩
  rw [show sumN (List.flatten []) = 0 from rfl]
  go_wp2_with fail
  go_ret
  exact ⟨rfl, ((((Below.refl _ w).alloc (Nat.le_refl _) _).alloc (by simp) _).trans (hb1.mono (by simp; omega))).trans (hb2.mono (by have := hb1.size; simp at this; omega))⟩
end Go.Proofs.Ytammicdgpdnihaa
