/- The hash of no bytes, and of the bytes of "abc", reckoned. -/
import Derived.Test.YtegeglnfpddgfaaShaMath
import Derived.KernelRfl
namespace Go.Proofs.Ytegeglnfpddgfaa
theorem block_0 : blockN begin8 (128 :: List.replicate 63 0) = [3820012610, 2566659092, 2600203464, 2574235940, 665731556, 1687917388, 2761267483, 2018687061] := by kernel_rfl
theorem block_1 : blockN begin8 (97 :: 98 :: 99 :: 128 :: List.replicate 59 0 ++ [24]) = [3128432319, 2399260650, 1094795486, 1571693091, 2953011619, 2518121116, 3021012833, 4060091821] := by kernel_rfl
theorem hash_one (b B : List UInt8) (hB : b ++ fillN b.length = B) (hl : B.length = 64) : hashN b = bytesN (blockN begin8 B) := by
  unfold hashN
  rw [hB, runN_ge (by omega), runN_lt (by rw [List.length_drop]; omega), List.take_of_length_le (by omega)]
theorem hash_0 : hashN [] = [227, 176, 196, 66, 152, 252, 28, 20, 154, 251, 244, 200, 153, 111, 185, 36, 39, 174, 65, 228, 100, 155, 147, 76, 164, 149, 153, 27, 120, 82, 184, 85] := by
  rw [hash_one [] (128 :: List.replicate 63 0) (by kernel_rfl) (by kernel_rfl), block_0]; kernel_rfl
theorem hash_1 : hashN [97, 98, 99] = [186, 120, 22, 191, 143, 1, 207, 234, 65, 65, 64, 222, 93, 174, 34, 35, 176, 3, 97, 163, 150, 23, 122, 156, 180, 16, 255, 97, 242, 0, 21, 173] := by
  rw [hash_one [97, 98, 99] (97 :: 98 :: 99 :: 128 :: List.replicate 59 0 ++ [24]) (by kernel_rfl) (by kernel_rfl), block_1]; kernel_rfl
end Go.Proofs.Ytegeglnfpddgfaa
