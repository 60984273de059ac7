/- The hash that grows: what it is in memory; sha.New, Len. -/
import Derived.Test.YtegeglnfpddgfaaShaWin
namespace Go.Proofs.Ytegeglnfpddgfaa
open Go.RowKit

/-- The cells of a Hash. -/
def hcells (s : List Nat) (v : Value) (n : Nat) : Array Value := arr s ++ #[v, .int .i64 (n : Int)]
theorem hcells_size {s : List Nat} (h : s.length = 8) (v : Value) (n : Nat) : (hcells s v n).size = 10 := by unfold hcells; rw [Array.size_append, arr_size, h]; rfl
theorem hcells_state {s : List Nat} (h : s.length = 8) (v : Value) (n : Nat) {j : Nat} (hj : j < 8) : (hcells s v n)[j]? = (arr s)[j]? := by
  unfold hcells; rw [Array.getElem?_append_left (by rw [arr_size]; omega)]
theorem hcells_8 {s : List Nat} (h : s.length = 8) (v : Value) (n : Nat) : (hcells s v n)[8]? = some v := by
  unfold hcells; rw [Array.getElem?_append_right (by rw [arr_size]; omega), arr_size, h]; rfl
theorem hcells_9 {s : List Nat} (h : s.length = 8) (v : Value) (n : Nat) : (hcells s v n)[9]? = some (.int .i64 (n : Int)) := by
  unfold hcells; rw [Array.getElem?_append_right (by rw [arr_size]; omega), arr_size, h]; rfl
theorem hcells_set8 {s : List Nat} (h : s.length = 8) (v x : Value) (n : Nat) : (hcells s v n).setIfInBounds 8 x = hcells s x n := by
  unfold hcells
  rw [Array.setIfInBounds_append_right (by rw [arr_size, h]; exact Nat.le_refl _), arr_size, h]; rfl
theorem hcells_set9 {s : List Nat} (h : s.length = 8) (v : Value) (n m : Nat) : (hcells s v n).setIfInBounds 9 (.int .i64 (m : Int)) = hcells s v m := by
  unfold hcells
  rw [Array.setIfInBounds_append_right (by rw [arr_size, h]; omega), arr_size, h]; rfl

/-- The cells of a row with vs laid from o on. -/
def putL (C : Array Value) (o : Nat) : List Value → Array Value
  | [] => C
  | v :: r => putL (C.setIfInBounds o v) (o + 1) r
theorem heap_setCells_same (p : Nat) : ∀ (vs : List Value) (o : Nat) (w : World) (C : Array Value) (e : TypeId), w.heap[p]? = some (.cells C e (0, 0)) → (w.setCells p o vs).heap[p]? = some (.cells (putL C o vs) e (0, 0))
  | [], _, _, _, _, h => h
  | v :: r, o, w, C, e, h => heap_setCells_same p r (o + 1) _ _ e (heap_setCell_same w p o C e v h)
theorem putL_eq : ∀ (vs : List Value) (o : Nat) (C : Array Value), o + vs.length ≤ C.size → putL C o vs = (C.toList.take o ++ vs ++ C.toList.drop (o + vs.length)).toArray
  | [], o, C, _ => by simp [putL]
  | v :: r, o, C, h => by
    have hl : o + 1 + r.length ≤ C.size := by simp at h; omega
    show putL (C.setIfInBounds o v) (o + 1) r = _
    rw [putL_eq r (o + 1) _ (by simpa using hl)]
    congr 1
    rw [Array.toList_setIfInBounds]
    have h1 : (C.toList.set o v).take (o + 1) = C.toList.take o ++ [v] := by
      have ho : o < C.toList.length := by simp; omega
      rw [List.take_succ_eq_append_getElem (by simpa using ho), List.take_set_of_le (Nat.le_refl _)]; simp
    rw [h1, List.drop_set_of_lt (by omega)]
    simp only [List.append_assoc, List.singleton_append, List.length_cons]
    rw [show o + 1 + r.length = o + (r.length + 1) by omega]

/-- The hash at block p: its state, the bytes that are left (in the window v), how many there were. -/
structure Hs (base : Nat) (w : World) (p : Nat) (v : Value) (s : List Nat) (r : List UInt8) (n : Nat) : Prop where
  cell : w.heap[p]? = some (.cells (hcells s v n) 55 (0, 0))
  st : Is8 s
  own : OwnW base w v r
  ge : base ≤ p
  ne : v.ownBlock ≠ some p
section
variable {base : Nat} {w w' : World} {p : Nat} {v : Value} {s : List Nat} {r : List UInt8} {n : Nat}
theorem Hs.lt (h : Hs base w p v s r n) : p < w.heap.size := (Array.getElem?_eq_some_iff.1 h.cell).1
theorem Hs.at8 (h : Hs base w p v s r n) : w.cell? ⟨p, 8, none⟩ = some v := by rw [cell_of_row w p 8 _ _ _ h.cell]; exact hcells_8 h.st.1 v n
theorem Hs.at9 (h : Hs base w p v s r n) : w.cell? ⟨p, 9, none⟩ = some (.int .i64 (n : Int)) := by rw [cell_of_row w p 9 _ _ _ h.cell]; exact hcells_9 h.st.1 v n
theorem Hs.free (h : Hs base w p v s r n) (j : Nat) : w.frozen? ⟨p, j, none⟩ = false := frozen_of_row w p j _ _ h.cell
theorem Hs.kept (h : Hs base w p v s r n) {T : Nat → Prop} (hk : Kept T w w') (h1 : ¬ T p) (h2 : ∀ k, v.ownBlock = some k → ¬ T k) : Hs base w' p v s r n :=
  ⟨by rw [hk.block p h.lt h1]; exact h.cell, h.st, h.own.keptT hk h2, h.ge, h.ne⟩
theorem Hs.below (h : Hs base w p v s r n) (hb : Below w.heap.size w w') : Hs base w' p v s r n :=
  h.kept (T := fun _ => False) (Kept.ofBelow hb _) (fun h => h) (fun _ _ h => h)
theorem Hs.setN (h : Hs base w p v s r n) (m : Nat) : Hs base (w.setCell ⟨p, 9, none⟩ (.int .i64 (m : Int))) p v s r m :=
  ⟨by rw [heap_setCell_same w p 9 _ _ _ h.cell, hcells_set9 h.st.1], h.st, h.own.keptT (T := (· = p)) (Kept.setCell _ _ _ rfl) (fun _ hk e => h.ne (e ▸ hk)), h.ge, h.ne⟩
theorem Hs.setV (h : Hs base w p v s r n) {x : Value} {r' : List UInt8} (hx : OwnW base w x r') (hne : x.ownBlock ≠ some p) : Hs base (w.setCell ⟨p, 8, none⟩ x) p x s r' n :=
  ⟨by rw [heap_setCell_same w p 8 _ _ _ h.cell, hcells_set8 h.st.1], h.st, hx.keptT (T := (· = p)) (Kept.setCell _ _ _ rfl) (fun _ hk e => hne (e ▸ hk)), h.ge, hne⟩
/-- The blocks that a Hash's method may write to. -/
def HFoot (p : Nat) (v : Value) (k : Nat) : Prop := k = p ∨ v.ownBlock = some k
theorem Hs.foot (h : Hs base w p v s r n) : ∀ k, HFoot p v k → base ≤ k := by
  intro k hk
  rcases hk with rfl | hk
  · exact h.ge
  · exact (h.own.lt k hk).1
theorem HFoot.next {p : Nat} {v v' : Value} {w : World} {B : Nat} (hn : Near w v v') (hB : B ≤ w.heap.size) : ∀ k, HFoot p v' k → HFoot p v k ∨ B ≤ k := by
  intro k hk
  rcases hk with rfl | hk
  · exact .inl (.inl rfl)
  · exact (hn k hk).imp .inr (fun h => by omega)

theorem run_loadVar_state (h : Hs base w p v s r n) : (loadVar 29 ⟨p, 0, none⟩).run Try.prog w = .ok (.agg (arr s)) w := by
  have hl : (loadCells ⟨p, 0, none⟩ (arr s).toList.length).run Try.prog w = .ok (arr s).toList.toArray w :=
    run_loadCells_list (P := Try.prog) w ⟨p, 0, none⟩ (arr s).toList (fun j x hv => by
      have hj : j < 8 := by have := (List.getElem?_eq_some_iff.1 hv).1; rw [Array.length_toList, arr_size, h.st.1] at this; exact this
      rw [addr_add, Nat.zero_add, cell_of_row w p j _ _ _ h.cell, hcells_state h.st.1 v n hj]
      simpa using hv)
  have hs : (arr s).size = 8 := by rw [arr_size, h.st.1]
  cases hq : Try.prog.info? 29 with
  | none => have := info_8; simp [hq] at this
  | some i =>
    have hi : i.size = 8 := by have := info_8; simpa [hq] using this
    have hagg : (isAgg 29).run Try.prog w = .ok true w := by
      unfold isAgg
      rw [Sem.run_bind, run_underlying under_8 w]; rfl
    simp only [Array.length_toList, Array.toArray_toList, hs] at hl
    simp [loadVar, Sem.run_bind, hagg, sizeOf, typeInfo, hq, hi, hl]
theorem wp_load_state {o : Oper} {a : Act} {K : Act → World → Prop} {Q : Exit → Act → World → Prop} (h : Hs base w p v s r n) (x : Operand) (ho : o.op = .load 29 x) (hx : a.eval x = .pointer (some ⟨p, 0, none⟩))
    (hK : K (a.put o.dst (.agg (arr s))) w) : o.wp Try.prog a w K Q := by
  unfold Oper.wp execOp
  simp only [ho, hx, Instr.loadAt, Instr.sureAddr, Sem.run_bind, Sem.run_pure, Result.andThen_ok, run_loadVar_state h]
  exact hK
theorem Hs.setState (h : Hs base w p v s r n) {s' : List Nat} (h8 : Is8 s') : Hs base (w.setCells p 0 (arr s').toList) p v s' r n := by
  have hk := kept_setCells p (arr s').toList 0 w
  refine ⟨?_, h8, h.own.keptT hk (fun _ hk e => h.ne (e ▸ hk)), h.ge, h.ne⟩
  rw [heap_setCells_same p _ 0 w _ _ h.cell, putL_eq _ 0 _ (by rw [hcells_size h.st.1, Array.length_toList, arr_size, h8.1]; omega)]
  congr 2
  rw [Array.length_toList, arr_size, h8.1]
  unfold hcells
  simp [Array.toList_append, arr_size, h.st.1]
theorem run_storeVar_state (h : Hs base w p v s r n) (s' : List Nat) (hs' : s'.length = 8) : (storeVar 29 ⟨p, 0, none⟩ (.agg (arr s'))).run Try.prog w = .ok () (w.setCells p 0 (arr s').toList) := by
  have hsz := hcells_size h.st.1 v n
  have hst := run_storeCells_cells (P := Try.prog) p 0 (arr s').toList 0 w (fun j hj => by
      rw [Array.length_toList, arr_size, hs'] at hj
      rw [cell_of_row w p _ _ _ _ h.cell, Array.getElem?_eq_getElem (by rw [hsz]; omega)]; rfl) (fun j _ => h.free _) (fun u hu => (Array.all_eq_true_iff_forall_mem.1 (arr_one s')) u (by simpa using hu))
  cases hq : Try.prog.info? 29 with
  | none => have := info_8; simp [hq] at this
  | some i =>
    have hi : i.size = 8 := by have := info_8; simpa [hq] using this
    have hs : (arr s').size = i.size := by rw [arr_size, hs', hi]
    simp only [Nat.add_zero] at hst
    simp [storeVar, sizeOf, typeInfo, hq, Value.cells, hs, hst]
theorem wp_store_state {o : Oper} {a : Act} {K : Act → World → Prop} {Q : Exit → Act → World → Prop} (h : Hs base w p v s r n) (x y : Operand) (ho : o.op = .store 29 x y) (hx : a.eval x = .pointer (some ⟨p, 0, none⟩))
    (s' : List Nat) (hy : a.eval y = .agg (arr s')) (h8 : Is8 s') (hK : ∀ w', Hs base w' p v s' r n → Kept (· = p) w w' → K (a.put o.dst undef) w') : o.wp Try.prog a w K Q := by
  unfold Oper.wp execOp
  simp only [ho, hx, hy, Instr.storeAt, Instr.sureAddr, Sem.run_bind, Sem.run_pure, Result.andThen_ok, run_storeVar_state h s' h8.1]
  exact hK _ (h.setState h8) (kept_setCells p _ 0 w)
/-- A store of one cell: the world behind it by a name of its own. -/
theorem wpList_store_v (hc : w.heap[p]? = some (.cells (hcells s v n) 55 (0, 0))) (h8 : Is8 s) (hge : base ≤ p) {ops : Array Oper} {rest : List Oper} {o : Oper} {a : Act} {Q : Exit → Act → World → Prop} (hgd : o.guard = none) (x y : Operand) (ho : o.op = .store 22 x y)
    (hx : a.eval x = .pointer (some ⟨p, 8, none⟩)) (u : Option Addr) (m c : Nat) (hy : a.eval y = .slice u m c) (r' : List UInt8) (hu : OwnW base w (.slice u m c) r') (hne : (Value.slice u m c).ownBlock ≠ some p)
    (hK : ∀ w', Hs base w' p (.slice u m c) s r' n → Kept (· = p) w w' → wpList Try.prog ops Q rest (a.put o.dst undef) w') : wpList Try.prog ops Q (o :: rest) a w := by
  refine wpList_plain hgd fun K hK' => ?_
  have hset : Hs base (w.setCell ⟨p, 8, none⟩ (.slice u m c)) p (.slice u m c) s r' n :=
    ⟨by rw [heap_setCell_same w p 8 _ _ _ hc, hcells_set8 h8.1], h8, hu.keptT (T := (· = p)) (Kept.setCell _ _ _ rfl) (fun _ hk e => hne (e ▸ hk)), hge, hne⟩
  have h2 := hK' _ _ (hK _ hset (Kept.setCell (T := (· = p)) _ _ _ rfl))
  have hc8 : w.cell? ⟨p, 8, none⟩ = some v := by rw [cell_of_row w p 8 _ _ _ hc]; exact hcells_8 h8.1 v n
  have hf : w.frozen? ⟨p, 8, none⟩ = false := frozen_of_row w p 8 _ _ hc
  clear hK hK' hset
  unfold Oper.wp execOp
  simp only [ho, hx, hy]
  go_simp
  exact h2
theorem wpList_store_n (h : Hs base w p v s r n) {ops : Array Oper} {rest : List Oper} {o : Oper} {a : Act} {Q : Exit → Act → World → Prop} (hgd : o.guard = none) (x y : Operand) (ho : o.op = .store 3 x y)
    (hx : a.eval x = .pointer (some ⟨p, 9, none⟩)) (m : Nat) (u : Value) (hy : a.eval y = u) (hu : u = .int .i64 (m : Int))
    (hK : ∀ w', Hs base w' p v s r m → Kept (· = p) w w' → wpList Try.prog ops Q rest (a.put o.dst undef) w') : wpList Try.prog ops Q (o :: rest) a w := by
  refine wpList_plain hgd fun K hK' => ?_
  have h2 := hK' _ _ (hK _ (h.setN m) (Kept.setCell (T := (· = p)) _ _ _ rfl))
  have hc := h.at9
  have hf := h.free 9
  clear hK hK'
  subst hu
  unfold Oper.wp execOp
  simp only [ho, hx, hy]
  go_simp
  exact h2
end

theorem built_hash : Try.prog.built 55 [(0, .agg (arr begin8))] = some (hcells begin8 (.slice none 0 0) 0) := by kernel_rfl

set_option maxRecDepth 100000 in
theorem New_any (w : World) : Calls Try.prog 17 #[] w fun e w' => ∃ p, e = .returned (.pointer (some ⟨p, 0, none⟩)) ∧ Hs w.heap.size w' p (.slice none 0 0) begin8 [] 0 ∧ Below w.heap.size w w' := by
  go_enter Try.func17, Try.ntmps17
  go_wp2_with fail
  refine (Begin_any _).mono ?_
  rintro e w1 ⟨rfl, hb1⟩
  go_wp2_with (first
    | (with_reducible refine wpList_buildTo rfl 55 _ rfl (some 2) rfl (hcells begin8 (.slice none 0 0) 0) (by simpa using built_hash) ?_)
    | (with_reducible refine Great.wpList_boxTo rfl 55 (.tmp 2) rfl (some 3) rfl w1.heap.size rfl (hcells begin8 (.slice none 0 0) 0) rfl ?_))
  go_ret
  refine ⟨w1.heap.size, rfl, ⟨heap_alloc_new _ _, begin8_8, OwnW.start _ _, hb1.size, by simp [Value.ownBlock]⟩, hb1.alloc hb1.size _⟩
end Go.Proofs.Ytegeglnfpddgfaa
