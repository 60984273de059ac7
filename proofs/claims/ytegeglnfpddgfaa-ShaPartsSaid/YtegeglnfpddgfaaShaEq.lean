/- Arrays that are alike compare as alike. -/
import Derived.Test.YtegeglnfpddgfaaShaRHash
import Derived.ChangeKeysEq
namespace Go.Proofs.Ytegeglnfpddgfaa
open Go.RowKit

theorem run_eqItems_same {P : Program} (w : World) (d : Nat) {e : TypeId} {k : IntKind} (hu : P.underlying e = some (.int k)) (hp : P.plainKey e = true) (xs : Array Value) : ∀ (is : List Nat), (∀ i ∈ is, ∃ a, xs[i]? = some (.int k a)) → (Op.eqItems (d + 1) e 1 xs xs is).run P w = .ok true w
  | [], _ => by simp [Op.eqItems]
  | i :: is, h => by
    obtain ⟨a, ha⟩ := h i (by simp)
    have hpart := run_part_plain w hp (xs := xs) (off := i) ha
    have heq : (Op.equalIn (d + 1) e (.int k a) (.int k a)).run P w = .ok true w := by rw [run_equalIn_int w d e k k a a hu]; simp
    simp only [Op.eqItems, Nat.mul_one, Sem.run_bind, hpart, Result.andThen_ok, heq]
    simpa using run_eqItems_same w d hu hp xs is (fun i hi => h i (by simp [hi]))
theorem eqlA {T e : TypeId} {n : Nat} {k : IntKind} (w : World) (hT : Try.prog.underlying T = some (.array n e)) (hu : Try.prog.underlying e = some (.int k)) (hp : Try.prog.plainKey e = true) (hc : Try.prog.cellsOf e = 1) {i0 : TypeInfo} (hi : Try.prog.info? e = some i0)
    (xs : Array Value) (hx : ∀ i, i < n → ∃ a, xs[i]? = some (.int k a)) : (Op.equalIn 10000 T (.agg xs) (.agg xs)).run Try.prog w = .ok true w := by
  rw [show (10000 : Nat) = 9999 + 1 from rfl, run_equalIn_array w 9999 xs xs hT hi, hc]
  exact run_eqItems_same w 9998 hu hp xs _ (fun i hi => hx i (by simpa using hi))
theorem guardA {T : TypeId} (op : BinOp) (x y : Operand) (xs ys : Array Value) (w : World) (h : Try.prog.eqGuardType Try.prog.depth T = false) : (eqGuard op T x y (.agg xs) (.agg ys)).run Try.prog w = .ok () w := run_eqGuard_agg w op T x y xs ys h
theorem info_some {P : Program} {t : TypeId} (h : (P.info? t).isSome = true) : ∃ i, P.info? t = some i := Option.isSome_iff_exists.1 h
theorem guard32 : Try.prog.eqGuardType Try.prog.depth 24 = false := by kernel_rfl
theorem guard8 : Try.prog.eqGuardType Try.prog.depth 29 = false := by kernel_rfl
theorem eql32 (w : World) (l : List UInt8) (hl : l.length = 32) : (Op.equalIn 10000 24 (.agg (arrB l)) (.agg (arrB l))).run Try.prog w = .ok true w := by
  obtain ⟨i0, hi⟩ := info_some (P := Try.prog) (t := 5) (by kernel_rfl)
  exact eqlA (k := .u8) w under_32 Try.underlying5 (by kernel_rfl) (by kernel_rfl) hi _ (fun i hi => ⟨_, arrB_at (by omega)⟩)
theorem eql8 (w : World) (l : List Nat) (hl : l.length = 8) : (Op.equalIn 10000 29 (.agg (arr l)) (.agg (arr l))).run Try.prog w = .ok true w := by
  obtain ⟨i0, hi⟩ := info_some (P := Try.prog) (t := 28) (by kernel_rfl)
  exact eqlA (k := .u32) w under_8 Try.underlying28 (by kernel_rfl) (by kernel_rfl) hi _ (fun i hi => ⟨_, arr_at (by omega)⟩)

section
variable {T : TypeId} {o : Oper} {ev : Operand → Value} {w : World}
theorem yield_loadA {cs : Array Value} {g n : Nat} {E : TypeId} (hu : Try.prog.underlying T = some (.array n E)) (hi : (Try.prog.info? T).map (·.size) = some n) (x : Operand) (ho : o.op = .load T x) (hx : ev x = .pointer (some ⟨g, 0, none⟩)) {fr : Nat × Nat} (hl : cs.size = n) (hat : w.heap[g]? = some (.cells cs T fr)) :
    (execOp ev o).run Try.prog w = .ok (.value (.agg cs)) w := by
  unfold execOp
  simp only [ho, hx, Instr.loadAt, Instr.sureAddr, Sem.run_bind, Sem.run_pure, Result.andThen_ok, run_loadVar_row w g T T cs fr _ hat hu rfl (by rw [hi, hl])]
theorem yield_loadB {l : List UInt8} {g n : Nat} {E : TypeId} (hu : Try.prog.underlying T = some (.array n E)) (hi : (Try.prog.info? T).map (·.size) = some n) (x : Operand) (ho : o.op = .load T x) (hx : ev x = .pointer (some ⟨g, 0, none⟩)) (hl : l.length = n) (hat : ArrBAt T w g l) :
    (execOp ev o).run Try.prog w = .ok (.value (.agg (arrB l))) w := yield_loadA hu hi x ho hx (by rw [arrB_size, hl]) hat
theorem yield_loadW {l : List Nat} {g n : Nat} {E : TypeId} (hu : Try.prog.underlying T = some (.array n E)) (hi : (Try.prog.info? T).map (·.size) = some n) (x : Operand) (ho : o.op = .load T x) (hx : ev x = .pointer (some ⟨g, 0, none⟩)) (hl : l.length = n) (hat : ArrAt T w g l) :
    (execOp ev o).run Try.prog w = .ok (.value (.agg (arr l))) w := yield_loadA hu hi x ho hx (by rw [arr_size, hl]) hat
theorem yield_neqA {r : TypeId} {xs : Array Value} {b : Bool} (hg : Try.prog.eqGuardType Try.prog.depth T = false) (x y : Operand) (ho : o.op = .binOp .neq T x y r) (hx : ev x = .agg xs) (hy : ev y = .agg xs) (he : (Op.equalIn 10000 T (.agg xs) (.agg xs)).run Try.prog w = .ok b w) :
    (execOp ev o).run Try.prog w = .ok (.value (.bool !b)) w := by
  unfold execOp
  simp only [ho, hx, hy, Sem.run_bind, guardA _ _ _ _ _ _ hg, Result.andThen_ok, run_neq_struct, he, Sem.run_pure]
theorem yield_eqlA {r : TypeId} {xs : Array Value} {b : Bool} (hg : Try.prog.eqGuardType Try.prog.depth T = false) (x y : Operand) (ho : o.op = .binOp .eql T x y r) (hx : ev x = .agg xs) (hy : ev y = .agg xs) (he : (Op.equalIn 10000 T (.agg xs) (.agg xs)).run Try.prog w = .ok b w) :
    (execOp ev o).run Try.prog w = .ok (.value (.bool b)) w := by
  unfold execOp
  simp only [ho, hx, hy, Sem.run_bind, guardA _ _ _ _ _ _ hg, Result.andThen_ok, run_eql_struct, he, Sem.run_pure]
end
end Go.Proofs.Ytegeglnfpddgfaa
