/- The walk of repertorylaw06.awake: chapter 6's examples hold. -/
import Derived.Test.YtammicdgpdnihaaSevenUnpack
import Derived.Test.YtammicdgpdnihaaSevenPack
import Derived.Test.YtammicdgpdnihaaStr
namespace Go.Proofs.Ytammicdgpdnihaa
open Go.RowKit

set_option maxRecDepth 100000 in
set_option maxHeartbeats 1000000 in
theorem awake6 (w : World) : Calls Try.prog 23 #[] w fun e w' => e = .returned (.bool true) ∧ Below w.heap.size w w' := by
  have hu : unpackN [129, 128] = some [1] := by decide
  have hp : packN [[255]].flatten = [255, 129] := by decide
  have hw0 : whole [129, 0] = false := by decide
  have HU := Lib.hid hu
  have HP := Lib.hid hp
  have HW := Lib.hid hw0
  clear hu hp hw0
  go_enter Try.func23, Try.ntmps23
  go_wp2_with fail
  refine (Unpack_any _ [129, 128] 2 2 _ rfl (by omega) (Bs.lit (heap_alloc_new _ _) _ rfl 2 (by decide) (by decide))).mono ?_
  rintro e w1 ⟨hun, hb1⟩
  rcases hun with ⟨x, v, hx, rfl, hown⟩ | ⟨hx, -⟩
  case inr => rw [HU.out] at hx; cases hx
  rw [HU.out] at hx
  cases hx
  obtain ⟨a1, c1, n1, hv1, hn1, hbs1, -, hblk1⟩ := hown.bsn
  obtain rfl : n1 = 1 := hn1
  rw [hv1]
  have hb1' : Below w.heap.size w w1 := ((Below.refl _ w).alloc (Nat.le_refl _) _).trans (hb1.mono (by simp))
  have HBS1 := Lib.hid hbs1
  clear hv1 hbs1 hown hblk1 hb1
  go_wp2_with fail
  refine (Pack_any _ [[255]] _ _ _ rfl (by decide) ?_).mono ?_
  · refine Bss.one [255] rfl (heap_alloc_at _ _ _ (by simp)) ?_
    exact Bs.lit (Eq.trans (Below.heap_alloc _ _ _ (by simp)) (heap_alloc_new _ _)) [255] rfl 1 (by decide) (by decide)
  rintro e w2 ⟨v2, rfl, hown2, hb2⟩
  rw [HP.out] at hown2
  have hb2' : Below w1.heap.size w1 w2 := (((Below.refl _ _).alloc (Nat.le_refl _) _).alloc (by simp) _).trans (hb2.mono (by simp <;> omega))
  obtain ⟨a2, c2, n2, hv2, hn2, hbs2, -, hblk2⟩ := hown2.bsn
  rw [hv2]
  have hs2 := run_str hn2 hbs2
  obtain ⟨b, off, ha1, hcell1, _⟩ := (HBS1.out.below hb2').at (k := 0) (by decide)
  subst ha1
  have hcell1' : w2.cell? ⟨b, off, none⟩ = some (.int .u8 1) := by rw [Nat.add_zero] at hcell1; exact hcell1
  have HS := Lib.hid (strB_toList [255, 129])
  clear hv2 hn2 hbs2 hown2 hblk2 hb2 hcell1
  generalize strB [255, 129] = S at *
  have hS := HS.out
  go_wp2_with fail
  refine (Whole_any _ [129, 0] 2 2 _ rfl (Bs.lit (heap_alloc_new _ _) _ rfl 2 (by decide) (by decide))).mono ?_
  rintro e w3 ⟨rfl, rfl⟩
  rw [HW.out]
  go_wp2
  go_ret
  exact ⟨rfl, (hb1'.trans (hb2'.mono hb1'.size)).trans (((Below.refl _ _).alloc (Nat.le_refl _) _).mono (Nat.le_trans hb1'.size hb2'.size))⟩
end Go.Proofs.Ytammicdgpdnihaa
