/- Walks of sha.roots, Root, Begin, and the document's known and first. -/
import Derived.Test.YtegeglnfpddgfaaShaStep
namespace Go.Proofs.Ytegeglnfpddgfaa
open Go.RowKit

def z64 : List Nat := List.replicate 64 0
theorem z64_len : z64.length = 64 := by kernel_rfl
theorem alloc_run64 (w : World) : (Instr.alloc 46 true (.tuple #[])).run Try.prog w = .ok (.pointer (some ⟨w.heap.size, 0, none⟩)) (w.alloc (.cells (arr z64) 46)) := by kernel_rfl
theorem wpList_alloc64 {ops : Array Oper} {rest : List Oper} {o : Oper} {a : Act} {w : World} {Q : Exit → Act → World → Prop} (hg : o.guard = none) (ho : o.op = .alloc 46)
    (h : wpList Try.prog ops Q rest (a.put o.dst (.pointer (some ⟨w.heap.size, 0, none⟩))) (w.alloc (.cells (arr z64) 46))) : wpList Try.prog ops Q (o :: rest) a w := by
  refine wpList_plain hg fun K hK => ?_
  unfold Oper.wp
  simp only [execOp, ho, Sem.run_bind, alloc_run64, Result.andThen_ok, Sem.run_pure, Oper.upon_value]
  exact hK _ _ h

set_option maxRecDepth 100000 in
set_option maxHeartbeats 4000000 in
theorem roots_any (w : World) : Calls Try.prog 24 #[] w fun e w' => e = .returned (.agg (arr rootsL)) ∧ Below w.heap.size w w' := by
  have HAT := Lib.hid (ArrAt.new 46 w z64)
  go_enter Try.func24, Try.ntmps24
  go_wp2_with (first
    | (with_reducible refine wpList_alloc64 rfl rfl ?_)
    | (refine Great.wpList_buildFlatArrTo rfl 46 28 64 _ rfl .u32 (rootsL.map fun n => (n : Int)) (some 1) rfl (by kernel_rfl) (by kernel_rfl) (by kernel_rfl) (by kernel_rfl) ?_)
    | (refine wpList_store_arr (T := 46) (n := 64) info_64 rfl (.tmp 0) (.tmp 1) rfl rfl rootsL (by kernel_rfl) (by kernel_rfl) (by kernel_rfl) HAT.out ?_))
  refine bodyPost_ret (results_arr (T := 46) under_64 info_64 rfl _ rfl (by kernel_rfl) (HAT.out.row rootsL)) rfl ⟨rfl, ?_⟩
  exact below_setRow ((Below.refl _ _).alloc (Nat.le_refl _) _) (Nat.le_refl _) _

set_option maxRecDepth 100000 in
set_option maxHeartbeats 4000000 in
theorem known_any (w : World) : Calls Try.prog 28 #[] w fun e w' => e = .returned (.agg (arr rootsL)) ∧ Below w.heap.size w w' := by
  have HAT := Lib.hid (ArrAt.new 46 w z64)
  go_enter Try.func28, Try.ntmps28
  go_wp2_with (first
    | (with_reducible refine wpList_alloc64 rfl rfl ?_)
    | (refine Great.wpList_buildFlatArrTo rfl 46 28 64 _ rfl .u32 (rootsL.map fun n => (n : Int)) (some 1) rfl (by kernel_rfl) (by kernel_rfl) (by kernel_rfl) (by kernel_rfl) ?_)
    | (refine wpList_store_arr (T := 46) (n := 64) info_64 rfl (.tmp 0) (.tmp 1) rfl rfl rootsL (by kernel_rfl) (by kernel_rfl) (by kernel_rfl) HAT.out ?_))
  refine bodyPost_ret (results_arr (T := 46) under_64 info_64 rfl _ rfl (by kernel_rfl) (HAT.out.row rootsL)) rfl ⟨rfl, ?_⟩
  exact below_setRow ((Below.refl _ _).alloc (Nat.le_refl _) _) (Nat.le_refl _) _

def z8 : List Nat := [0, 0, 0, 0, 0, 0, 0, 0]
set_option maxRecDepth 100000 in
set_option maxHeartbeats 4000000 in
theorem Begin_any (w : World) : Calls Try.prog 10 #[] w fun e w' => e = .returned (.agg (arr begin8)) ∧ Below w.heap.size w w' := by
  have HAT := Lib.hid (ArrAt.new 29 w [0, 0, 0, 0, 0, 0, 0, 0])
  go_enter Try.func10, Try.ntmps10
  go_wp2_with (first
    | (with_reducible refine wpList_alloc8 rfl rfl ?_)
    | (refine Great.wpList_buildFlatArrTo rfl 29 28 8 _ rfl .u32 (begin8.map fun n => (n : Int)) (some 1) rfl (by kernel_rfl) (by kernel_rfl) (by kernel_rfl) (by kernel_rfl) ?_)
    | (refine wpList_store_arr (T := 29) (n := 8) info_8 rfl (.tmp 0) (.tmp 1) rfl rfl begin8 (by kernel_rfl) (by kernel_rfl) (by kernel_rfl) HAT.out ?_))
  refine bodyPost_ret (results_arr (T := 29) under_8 info_8 rfl _ rfl (by kernel_rfl) (HAT.out.row begin8)) rfl ⟨rfl, ?_⟩
  exact below_setRow ((Below.refl _ _).alloc (Nat.le_refl _) _) (Nat.le_refl _) _
set_option maxRecDepth 100000 in
set_option maxHeartbeats 4000000 in
theorem first_any (w : World) : Calls Try.prog 21 #[] w fun e w' => e = .returned (.agg (arr begin8)) ∧ Below w.heap.size w w' := by
  have HAT := Lib.hid (ArrAt.new 29 w [0, 0, 0, 0, 0, 0, 0, 0])
  go_enter Try.func21, Try.ntmps21
  go_wp2_with (first
    | (with_reducible refine wpList_alloc8 rfl rfl ?_)
    | (refine Great.wpList_buildFlatArrTo rfl 29 28 8 _ rfl .u32 (begin8.map fun n => (n : Int)) (some 1) rfl (by kernel_rfl) (by kernel_rfl) (by kernel_rfl) (by kernel_rfl) ?_)
    | (refine wpList_store_arr (T := 29) (n := 8) info_8 rfl (.tmp 0) (.tmp 1) rfl rfl begin8 (by kernel_rfl) (by kernel_rfl) (by kernel_rfl) HAT.out ?_))
  refine bodyPost_ret (results_arr (T := 29) under_8 info_8 rfl _ rfl (by kernel_rfl) (HAT.out.row begin8)) rfl ⟨rfl, ?_⟩
  exact below_setRow ((Below.refl _ _).alloc (Nat.le_refl _) _) (Nat.le_refl _) _

theorem info_u32 : (Try.prog.info? 28).map (fun i => (i.zero, i.size, i.bytes)) = some (some (.int .u32 0), 1, 4) := by kernel_rfl
theorem run_index_arr {T : TypeId} {n : Nat} (hu : Try.prog.underlying T = some (.array n 28)) (l : List Nat) (k : Nat) (hl : l.length = n) (hk : k < n) (w : World) :
    (Instr.index T (.agg (arr l)) (.int .i64 (k : Int))).run Try.prog w = .ok (.int .u32 ((l.getD k 0 : Nat) : Int)) w := by
  obtain ⟨i0, hi0, hz0, hz1, hz2⟩ := info_parts info_u32
  have h1 := arr_at (l := l) (j := k) (by omega)
  simp [Instr.index, run_underlying hu, asIntOf, sizeOf, typeInfo, hi0, hz1, part, isAgg, run_underlying Try.underlying28, h1, hk]

set_option maxRecDepth 100000 in
theorem shaRoot_any (i : Int) (w : World) (h1 : -9223372036854775808 ≤ i) (h2 : i ≤ 9223372036854775807) :
    Calls Try.prog 11 #[.int .i64 i] w fun e w' => e = .returned (.int .u32 (if 0 ≤ i ∧ i ≤ 63 then ((rootsL.getD i.toNat 0 : Nat) : Int) else 0)) ∧ Below w.heap.size w w' := by
  by_cases h : 0 ≤ i ∧ i ≤ 63
  · rw [if_pos h]
    obtain ⟨h3, h4⟩ := h
    obtain ⟨k, rfl⟩ : ∃ k : Nat, i = k := ⟨i.toNat, by omega⟩
    rw [Int.toNat_natCast]
    have hk : k < 64 := by omega
    have hx := run_index_arr under_64 rootsL k rfl hk
    go_enter Try.func11, Try.ntmps11
    go_wp2_with fail
    refine (roots_any _).mono ?_
    rintro e w1 ⟨rfl, hb1⟩
    go_wp2
    go_ret
    exact ⟨rfl, hb1⟩
  · rw [if_neg h]
    by_cases hneg : i < 0
    · clear h
      go_enter Try.func11, Try.ntmps11
      go_wp2
      go_ret
      exact ⟨rfl, Below.refl _ _⟩
    · have hbig : 63 < i := by omega
      clear h
      go_enter Try.func11, Try.ntmps11
      go_wp2
      go_ret
      exact ⟨rfl, Below.refl _ _⟩
end Go.Proofs.Ytegeglnfpddgfaa
