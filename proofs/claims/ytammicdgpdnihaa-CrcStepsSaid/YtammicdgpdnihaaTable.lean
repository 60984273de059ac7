/- The walk of crc.Table: each place of the table holds eight rounds of the register. -/
import Derived.Test.YtammicdgpdnihaaCrc
import Derived.Laws.CopyOwn
namespace Go.Proofs.Ytammicdgpdnihaa
open Go.RowKit

def tab0 : Array Value := Array.replicate 256 (.int .u32 0)

theorem wpList_alloc_tab {ops : Array Oper} {rest : List Oper} {o : Oper} {a : Act} {w : World} {Q : Exit → Act → World → Prop} (hg : o.guard = none) (ho : o.op = .alloc 36)
    (h : wpList Try.prog ops Q rest (a.put o.dst (.pointer (some ⟨w.heap.size, 0, none⟩))) (w.alloc (.cells tab0 36))) : wpList Try.prog ops Q (o :: rest) a w := by
  refine wpList_plain hg fun K hK => ?_
  have hrun : (Instr.alloc 36 true (.tuple #[])).run Try.prog w = .ok (.pointer (some ⟨w.heap.size, 0, none⟩)) (w.alloc (.cells tab0 36)) := by kernel_rfl
  unfold Oper.wp
  simp only [execOp, ho, Sem.run_bind, hrun, Result.andThen_ok, Sem.run_pure, Oper.upon_value]
  exact hK _ _ h

theorem info_tab : (Try.prog.info? 36).map (·.size) = some 256 := by kernel_rfl

/-- the table's block, filled up to k -/
structure TabAt (w : World) (g : Nat) (k : Nat) (cur : Array Value) : Prop where
  heap : w.heap[g]? = some (.cells cur 36 (0, 0))
  size : cur.size = 256
  done : ∀ j, j < k → cur[j]? = some (.int .u32 ((bsteps 8 j : Nat) : Int))
  ints : ∀ j, j < 256 → ∃ x : Int, cur[j]? = some (.int .u32 x)

theorem TabAt.cell {w : World} {g k : Nat} {cur : Array Value} (h : TabAt w g k cur) (j : Nat) (hj : j < 256) : ∃ x : Int, w.cell? ⟨g, j, none⟩ = some (.int .u32 x) := by
  obtain ⟨x, hx⟩ := h.ints j hj
  exact ⟨x, by rw [cell_of_row w g j cur _ _ h.heap, hx]⟩

theorem TabAt.frozen {w : World} {g k : Nat} {cur : Array Value} (h : TabAt w g k cur) (j : Nat) : w.frozen? ⟨g, j, none⟩ = false := frozen_of_row w g j cur _ h.heap

theorem TabAt.store {w : World} {g k : Nat} {cur : Array Value} (h : TabAt w g k cur) (hk : k < 256) :
    TabAt (w.setCell ⟨g, k, none⟩ (.int .u32 ((bsteps 8 k : Nat) : Int))) g (k + 1) (cur.setIfInBounds k (.int .u32 ((bsteps 8 k : Nat) : Int))) := by
  refine ⟨heap_setCell_same w g k cur _ _ h.heap, by simp [h.size], ?_, ?_⟩
  · intro j hj
    rw [Array.getElem?_setIfInBounds]
    by_cases e : k = j
    · subst e; rw [if_pos rfl, if_pos (by rw [h.size]; exact hk)]
    · rw [if_neg e]; exact h.done j (by omega)
  · intro j hj
    rw [Array.getElem?_setIfInBounds]
    by_cases e : k = j
    · subst e; rw [if_pos rfl, if_pos (by rw [h.size]; exact hk)]; exact ⟨_, rfl⟩
    · rw [if_neg e]; exact h.ints j hj

theorem TabAt.all {w : World} {g k : Nat} {cur : Array Value} (h : TabAt w g k cur) (hk : 256 ≤ k) : cur.all (·.oneCell') = true := by
  rw [Array.all_eq_true]
  intro i hi
  have h1 := h.done i (by have := h.size; omega)
  rw [Array.getElem?_eq_getElem hi] at h1
  simp only [Option.some.injEq] at h1
  rw [h1]; rfl

theorem tab0_at (w : World) (g : Nat) (h : w.heap[g]? = some (.cells tab0 36 (0, 0))) : TabAt w g 0 tab0 :=
  ⟨h, by simp [tab0], fun j hj => absurd hj (Nat.not_lt_zero _), fun j hj => ⟨0, by simp [tab0, hj]⟩⟩

set_option maxRecDepth 100000 in
set_option maxHeartbeats 400000 in
theorem Table_any (w : World) :
    Calls Try.prog 22 #[] w fun e w' => ∃ cur : Array Value, e = .returned (.agg cur) ∧ cur.size = 256 ∧ (∀ j, j < 256 → cur[j]? = some (.int .u32 ((bsteps 8 j : Nat) : Int))) ∧ Below w.heap.size w w' := by
  have h0 := tab0_at ((w.alloc (.cells tab0 36)).alloc (.cells tab0 36)) (w.heap.size + 1) (heap_alloc2_new w _ _)
  have h00 : ((w.alloc (.cells tab0 36)).alloc (.cells tab0 36)).heap[w.heap.size]? = some (.cells tab0 36 (0, 0)) := heap_alloc2_old w _ _
  have hb0 : Below w.heap.size w ((w.alloc (.cells tab0 36)).alloc (.cells tab0 36)) := ((Below.refl _ w).alloc (Nat.le_refl _) _).alloc (by simp) _
  generalize hw1 : (w.alloc (.cells tab0 36)).alloc (.cells tab0 36) = w1 at *
  have HW := Lib.hid hw1
  have H00 := Lib.hid h00
  clear hw1 h00
  go_enter Try.func22, Try.ntmps22
  go_wp2_with (with_reducible refine wpList_alloc_tab rfl rfl ?_)
  rw [HW.out]
  go_loopw [4] (fun i wr => ∃ (k : Nat) (cur : Array Value), k ≤ 256 ∧ i = .int .i64 k ∧ TabAt wr (w.heap.size + 1) k cur ∧ wr.heap[w.heap.size]? = some (.cells tab0 36 (0, 0)) ∧ Below w.heap.size w wr) (fun i _ => 256 - (intOf i).toNat)
  case atStart => exact ⟨0, tab0, by omega, rfl, h0, H00.out, hb0⟩
  case round =>
    obtain ⟨k, cur, hk, rfl, htab, hold, hbel⟩ := hrel
    have HO := Lib.hid hold
    clear hold
    by_cases hlt : k < 256
    · obtain ⟨x, hx⟩ := htab.cell k hlt
      have hf := htab.frozen k
      go_wp2_with fail
      go_loop [3, 9] (fun r j => ∃ m : Nat, m ≤ 8 ∧ j = .int .i64 m ∧ r = .int .u32 ((bsteps m k : Nat) : Int)) (fun _ j => 8 - (intOf j).toNat)
      case atStart => exact ⟨0, by omega, rfl, rfl⟩
      case round =>
        obtain ⟨m, hm, rfl, rfl⟩ := hrel
        have hs' := bsteps_lt m k (by omega)
        by_cases hlm : m < 8
        · have HR : Hid (bsteps (m + 1) k = bstep (bsteps m k)) := by show _ = _; rw [bsteps_add]; rfl
          generalize bsteps m k = q at *
          have hb : bits BinOp.and IntKind.u32 (q : Int) 1 = ((q % 2 : Nat) : Int) := by
            rw [show (1 : Int) = ((1 : Nat) : Int) from rfl, u32_and_nat q 1 hs' (by omega), nat_mask1]
          by_cases hpar : q % 2 = 1
          · have hne : ((q : Int) % 2 == 1) = true := by rw [beq_iff_eq]; omega
            have HR' : Hid (bsteps (m + 1) k = (q / 2) ^^^ poly) := by show _ = _; rw [HR.out, bstep, if_pos hpar]
            have hx : bits BinOp.xor IntKind.u32 (↑q / 2) 3988292384 = (((q / 2) ^^^ poly : Nat) : Int) := by
              rw [show ((q : Int) / 2) = ((q / 2 : Nat) : Int) from by omega]
              exact u32_xor_nat _ 3988292384 (by omega) (by omega)
            have HX := Lib.hid hx
            clear hpar hx
            go_wp2
            go_round
            case rel => exact ⟨m+1, by omega, by go_num, by rw [HR'.out, ← HX.out]⟩
            case measure => simp [intOf]; omega
          · have hne : ((q : Int) % 2 == 1) = false := by rw [beq_eq_false_iff_ne]; omega
            have HR' : Hid (bsteps (m + 1) k = q / 2) := by show _ = _; rw [HR.out, bstep, if_neg hpar]
            clear hpar
            go_wp2
            go_round
            case rel => exact ⟨m+1, by omega, by go_num, by rw [HR'.out]; go_num⟩
            case measure => simp [intOf]; omega
        · obtain rfl : m = 8 := by omega
          have hst := htab.store hlt
          generalize bsteps 8 k = q at *
          go_wp2
          go_roundw
          case rel => exact ⟨k+1, _, by omega, by go_num, hst, by rw [heap_setCell_other _ _ _ _ (by simp)]; exact HO.out, hbel.setCell (by simp) _⟩
          case measure => simp [intOf]; omega
    · have hk256 : 256 ≤ k := by omega
      have hall := htab.all hk256
      have hi36 : (Try.prog.info? 36).map (·.size) = some cur.size := by rw [htab.size]; exact info_tab
      have hold := HO.out
      have hsz : tab0.size = cur.size := by rw [htab.size]; simp [tab0]
      have HI := Lib.hid hi36
      have HS := Lib.hid hsz
      have HA := Lib.hid hall
      clear hi36 hsz hall hold
      go_wp2_with (first | (with_reducible refine wpList_load_row rfl 36 _ rfl (w.heap.size + 1) rfl 36 cur (0, 0) _ htab.heap Try.underlying36 rfl HI.out ?_) | (with_reducible refine wpList_store_row rfl 36 _ _ rfl w.heap.size cur rfl rfl 36 tab0 HO.out HI.out HS.out HA.out ?_))
      refine bodyPost_ret (v := .agg cur) (results_cell_row rfl _ _ w.heap.size 36 cur (0, 0) _ rfl (setRow_heap _ _ _ _ _ _ HO.out) Try.underlying36 rfl HI.out) rfl ⟨cur, rfl, htab.size, fun j hj => htab.done j (by omega), below_setRow hbel (Nat.le_refl _) cur⟩

end Go.Proofs.Ytammicdgpdnihaa
