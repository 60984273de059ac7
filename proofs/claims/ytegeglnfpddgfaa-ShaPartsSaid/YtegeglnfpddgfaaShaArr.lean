/- Arrays of words in memory; sha.turn, and the document's turn, move, pow. -/
import Derived.Test.YtegeglnfpddgfaaOwn
import Derived.Test.YtegeglnfpddgfaaStr
import Derived.Test.YtegeglnfpddgfaaRegion
import Derived.Test.YtegeglnfpddgfaaShaMath
import Derived.Great.Ranges
import Derived.Great.BuildSlice
namespace Go.Proofs.Ytegeglnfpddgfaa
open Go.RowKit

def u32v (n : Nat) : Value := .int .u32 (n : Int)
/-- The cells of an array of words. -/
def arr (l : List Nat) : Array Value := (l.map u32v).toArray
theorem arr_size (l : List Nat) : (arr l).size = l.length := by simp [arr]
theorem arr_at {l : List Nat} {j : Nat} (hj : j < l.length) : (arr l)[j]? = some (.int .u32 ((l.getD j 0 : Nat) : Int)) := by
  unfold arr
  simp [List.getD, hj, u32v]
theorem arr_one (l : List Nat) : (arr l).all (·.oneCell') = true := by
  rw [Array.all_eq_true]
  intro i hi
  have h : i < l.length := by rw [arr_size] at hi; exact hi
  have h1 := arr_at h
  rw [Array.getElem?_eq_getElem hi] at h1
  simp only [Option.some.injEq] at h1
  rw [h1]; rfl
theorem arr_set (l : List Nat) (j v : Nat) : (arr l).setIfInBounds j (.int .u32 (v : Int)) = arr (l.set j v) := by
  unfold arr
  rw [List.setIfInBounds_toArray, List.map_set]; rfl

/-- The block g is an array of type T that holds the words l. -/
def ArrAt (T : TypeId) (w : World) (g : Nat) (l : List Nat) : Prop := w.heap[g]? = some (.cells (arr l) T (0, 0))
section
variable {T : TypeId} {w w' : World} {g : Nat} {l : List Nat}
theorem ArrAt.lt (h : ArrAt T w g l) : g < w.heap.size := (Array.getElem?_eq_some_iff.1 h).1
theorem ArrAt.cell (h : ArrAt T w g l) {j : Nat} (hj : j < l.length) : w.cell? ⟨g, j, none⟩ = some (.int .u32 ((l.getD j 0 : Nat) : Int)) := by
  rw [cell_of_row w g j _ _ _ h]; exact arr_at hj
theorem ArrAt.free (h : ArrAt T w g l) (j : Nat) : w.frozen? ⟨g, j, none⟩ = false := frozen_of_row w g j _ _ h
theorem ArrAt.set (h : ArrAt T w g l) (j v : Nat) : ArrAt T (w.setCell ⟨g, j, none⟩ (.int .u32 (v : Int))) g (l.set j v) := by
  unfold ArrAt
  rw [heap_setCell_same w g j _ _ _ h, arr_set]
theorem ArrAt.kept (h : ArrAt T w g l) {U : Nat → Prop} (hk : Kept U w w') (hU : ¬ U g) : ArrAt T w' g l := by
  unfold ArrAt
  rw [hk.block g h.lt hU]; exact h
theorem ArrAt.below (h : ArrAt T w g l) (hb : Below w.heap.size w w') : ArrAt T w' g l := by
  unfold ArrAt
  rw [hb.block g h.lt]; exact h
theorem ArrAt.row (h : ArrAt T w g l) (l' : List Nat) : ArrAt T (w.setRow g (arr l')) g l' := setRow_heap _ _ _ _ _ _ h
theorem ArrAt.new (T : TypeId) (w : World) (l : List Nat) : ArrAt T (w.alloc (.cells (arr l) T)) w.heap.size l := heap_alloc_new w _
theorem kept_setRow {U : Nat → Prop} (w : World) (g : Nat) (cs : Array Value) (hU : U g) : Kept U w (w.setRow g cs) :=
  ⟨rfl, rfl, rfl, by simp [World.setRow], fun k _ hk => setRow_other w g k cs (fun e => hk (e ▸ hU))⟩

theorem wp_load_arr {o : Oper} {a : Act} {K : Act → World → Prop} {Q : Exit → Act → World → Prop} {n : Nat} {E : TypeId} (hu : Try.prog.underlying T = some (.array n E)) (hi : (Try.prog.info? T).map (·.size) = some n) (x : Operand) (ho : o.op = .load T x)
    (hx : a.eval x = .pointer (some ⟨g, 0, none⟩)) (hl : l.length = n) (hat : ArrAt T w g l) (h : K (a.put o.dst (.agg (arr l))) w) : o.wp Try.prog a w K Q :=
  wp_load_row T x ho g hx T (arr l) (0, 0) _ hat hu rfl (by rw [hi, arr_size, hl]) h
theorem wpList_load_arr {ops : Array Oper} {rest : List Oper} {o : Oper} {a : Act} {Q : Exit → Act → World → Prop} {n : Nat} {E : TypeId} (hu : Try.prog.underlying T = some (.array n E)) (hi : (Try.prog.info? T).map (·.size) = some n) (hgd : o.guard = none) (x : Operand) (ho : o.op = .load T x)
    (hx : a.eval x = .pointer (some ⟨g, 0, none⟩)) (hl : l.length = n) (hat : ArrAt T w g l) (h : wpList Try.prog ops Q rest (a.put o.dst (.agg (arr l))) w) : wpList Try.prog ops Q (o :: rest) a w :=
  wpList_plain hgd fun _ hK => wp_load_arr hu hi x ho hx hl hat (hK _ _ h)
theorem wp_store_arr {o : Oper} {a : Act} {K : Act → World → Prop} {Q : Exit → Act → World → Prop} {n : Nat} (hi : (Try.prog.info? T).map (·.size) = some n) (x y : Operand) (ho : o.op = .store T x y)
    (hx : a.eval x = .pointer (some ⟨g, 0, none⟩)) (l' : List Nat) (hy : a.eval y = .agg (arr l')) (hl : l.length = n) (hl' : l'.length = n) (hat : ArrAt T w g l) (h : K (a.put o.dst undef) (w.setRow g (arr l'))) : o.wp Try.prog a w K Q :=
  wp_store_row T x y ho g (arr l') hx hy T (arr l) hat (by rw [hi, arr_size, hl']) (by rw [arr_size, arr_size, hl, hl']) (arr_one l') h
theorem wpList_store_arr {ops : Array Oper} {rest : List Oper} {o : Oper} {a : Act} {Q : Exit → Act → World → Prop} {n : Nat} (hi : (Try.prog.info? T).map (·.size) = some n) (hgd : o.guard = none) (x y : Operand) (ho : o.op = .store T x y)
    (hx : a.eval x = .pointer (some ⟨g, 0, none⟩)) (l' : List Nat) (hy : a.eval y = .agg (arr l')) (hl : l.length = n) (hl' : l'.length = n) (hat : ArrAt T w g l) (h : wpList Try.prog ops Q rest (a.put o.dst undef) (w.setRow g (arr l'))) : wpList Try.prog ops Q (o :: rest) a w :=
  wpList_plain hgd fun _ hK => wp_store_arr hi x y ho hx l' hy hl hl' hat (hK _ _ h)
theorem wpList_box_arr {ops : Array Oper} {rest : List Oper} {o : Oper} {a : Act} {Q : Exit → Act → World → Prop} (hgd : o.guard = none) (x : Operand) (ho : o.op = .box T x)
    (hx : a.eval x = .agg (arr l)) (h : wpList Try.prog ops Q rest (a.put o.dst (.pointer (some ⟨w.heap.size, 0, none⟩))) (w.alloc (.cells (arr l) T))) : wpList Try.prog ops Q (o :: rest) a w :=
  Great.wpList_boxTo hgd T x ho _ rfl _ rfl (arr l) (by rw [hx]; rfl) h
theorem results_arr {fn : Func} {p : Tmp} {n : Nat} {E : TypeId} (hu : Try.prog.underlying T = some (.array n E)) (hi : (Try.prog.info? T).map (·.size) = some n) (h : fn.results = #[.cell p T]) (tmps : Array Value)
    (hp : tmps.getD p undef = .pointer (some ⟨g, 0, none⟩)) (hl : l.length = n) (hat : ArrAt T w g l) : (results fn tmps).run Try.prog w = .ok (.agg (arr l)) w :=
  results_cell_row h tmps w g T (arr l) (0, 0) _ hp hat hu rfl (by rw [hi, arr_size, hl])
end
theorem info_8 : (Try.prog.info? 29).map (·.size) = some 8 := by kernel_rfl
theorem info_64 : (Try.prog.info? 46).map (·.size) = some 64 := by kernel_rfl
theorem under_8 : Try.prog.underlying 29 = some (.array 8 28) := by kernel_rfl
theorem under_64 : Try.prog.underlying 46 = some (.array 64 28) := by kernel_rfl

theorem add32 (a b : Nat) : IntKind.u32.wrap ((a : Int) + (b : Int)) = (((a + b) % 4294967296 : Nat) : Int) := by rw [IntKind.wrap_u32']; simp

set_option maxRecDepth 100000 in
theorem turn_any (v n : Nat) (w : World) (hv : v < 4294967296) (hn1 : 1 ≤ n) (hn : n ≤ 31) :
    Calls Try.prog 36 #[.int .u32 (v : Int), .int .i64 (n : Int)] w fun e w' => e = .returned (.int .u32 ((rotN v n : Nat) : Int)) ∧ w' = w.drew := by
  obtain ⟨m, hm⟩ : ∃ m, m = 32 - n := ⟨_, rfl⟩
  have hsub : IntKind.i64.wrap (32 - (n : Int)) = (m : Int) := by rw [IntKind.wrap_i64]; omega
  obtain ⟨A, hA⟩ : ∃ A, A = v / 2 ^ n := ⟨_, rfl⟩
  have hshr : (v : Int) / 2 ^ n = (A : Int) := by rw [hA]; simp
  have hAl : A < 4294967296 := by rw [hA]; exact Nat.lt_of_le_of_lt (Nat.div_le_self _ _) hv
  obtain ⟨B, hB⟩ : ∃ B, B = v * 2 ^ m % 4294967296 := ⟨_, rfl⟩
  have hshl : IntKind.u32.wrap ((v : Int) * 2 ^ m) = (B : Int) := by rw [hB, IntKind.wrap_u32']; simp
  have hBl : B < 4294967296 := by rw [hB]; exact Nat.mod_lt _ (by omega)
  have hor : bits BinOp.or IntKind.u32 (A : Int) (B : Int) = ((rotN v n : Nat) : Int) := by
    rw [u32_or_nat A B hAl hBl, hA, hB, hm, rotN_or hv (by omega)]
  have hml : m ≤ 31 := by omega
  have HSUB := Lib.hid hsub
  have HSHR := Lib.hid hshr
  have HSHL := Lib.hid hshl
  have HOR := Lib.hid hor
  clear hm hA hB hsub hshr hshl hor
  generalize rotN v n = R at *
  go_enter Try.func36, Try.ntmps36
  go_wp2_with fail
  refine hStart (fun w' => True) (by kernel_rfl) ?_
  have hHeld := True.intro
  refine hTake 0 (v := ?_) rfl (by kernel_rfl) (by kernel_rfl) (by kernel_rfl) (fun _ _ _ h => h) (by rfl) ?_ hHeld ?_
  rotate_left
  · intro w hSw; (try dsimp only at hSw); go_simp; (try with_reducible rfl)
  try simp only [Act.put, List.setIfInBounds_toArray, List.set_cons_zero, List.set_cons_succ]
  refine hTake 1 (v := ?_) rfl (by kernel_rfl) (by kernel_rfl) (by kernel_rfl) (fun _ _ _ h => h) (by rfl) ?_ hHeld ?_
  rotate_left
  · intro w hSw; (try dsimp only at hSw); go_simp; (try with_reducible rfl)
  try simp only [Act.put, List.setIfInBounds_toArray, List.set_cons_zero, List.set_cons_succ]
  refine hTake 3 (v := ?_) rfl (by kernel_rfl) (by kernel_rfl) (by kernel_rfl) (fun _ _ _ h => h) (by rfl) ?_ hHeld ?_
  rotate_left
  · intro w hSw; (try dsimp only at hSw); go_simp; (try with_reducible rfl)
  try simp only [Act.put, List.setIfInBounds_toArray, List.set_cons_zero, List.set_cons_succ]
  refine hTake 4 (v := ?_) rfl (by kernel_rfl) (by kernel_rfl) (by kernel_rfl) (fun _ _ _ h => h) (by rfl) ?_ hHeld ?_
  rotate_left
  · intro w hSw; (try dsimp only at hSw); go_simp; (try with_reducible rfl)
  try simp only [Act.put, List.setIfInBounds_toArray, List.set_cons_zero, List.set_cons_succ]
  refine hTake 2 (v := (.int .u32 (A : Int))) rfl (by kernel_rfl) (by kernel_rfl) (by kernel_rfl) (fun _ _ _ h => h) (by rfl) ?_ hHeld ?_
  · intro w hSw; have h1 := HSHR.out; go_simp; (try with_reducible rfl)
  try simp only [Act.put, List.setIfInBounds_toArray, List.set_cons_zero, List.set_cons_succ]
  refine hTake 5 (v := (.int .i64 (m : Int))) rfl (by kernel_rfl) (by kernel_rfl) (by kernel_rfl) (fun _ _ _ h => h) (by rfl) ?_ hHeld ?_
  · intro w hSw; have h1 := HSUB.out; go_simp; (try with_reducible rfl)
  try simp only [Act.put, List.setIfInBounds_toArray, List.set_cons_zero, List.set_cons_succ]
  refine hTake 6 (v := (.int .u32 (B : Int))) rfl (by kernel_rfl) (by kernel_rfl) (by kernel_rfl) (fun _ _ _ h => h) (by rfl) ?_ hHeld ?_
  · intro w hSw; have h1 := HSHL.out; go_simp; (try with_reducible rfl)
  try simp only [Act.put, List.setIfInBounds_toArray, List.set_cons_zero, List.set_cons_succ]
  refine hTake 7 (v := (.int .u32 (R : Int))) rfl (by kernel_rfl) (by kernel_rfl) (by kernel_rfl) (fun _ _ _ h => h) (by rfl) ?_ hHeld ?_
  · intro w hSw; have h1 := HOR.out; go_simp; (try with_reducible rfl)
  try simp only [Act.put, List.setIfInBounds_toArray, List.set_cons_zero, List.set_cons_succ]
  refine hTake 8 (v := ?_) rfl (by kernel_rfl) (by kernel_rfl) (by kernel_rfl) (fun _ _ _ h => h) (by rfl) ?_ hHeld ?_
  rotate_left
  · intro w hSw; (try dsimp only at hSw); go_simp; (try with_reducible rfl)
  try simp only [Act.put, List.setIfInBounds_toArray, List.set_cons_zero, List.set_cons_succ]
  refine hDone (by kernel_rfl) ?_
  show NoPanic _ _ _ _
  refine NoPanic.normal ?_
  go_wp2
  go_ret
  exact ⟨rfl, rfl⟩
end Go.Proofs.Ytegeglnfpddgfaa
