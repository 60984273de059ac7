/- The walk of sha.step. -/
import Derived.Test.YtegeglnfpddgfaaShaArr
namespace Go.Proofs.Ytegeglnfpddgfaa
open Go.RowKit

theorem alloc_run8 (w : World) : (Instr.alloc 29 true (.tuple #[])).run Try.prog w = .ok (.pointer (some ⟨w.heap.size, 0, none⟩)) (w.alloc (.cells (arr [0, 0, 0, 0, 0, 0, 0, 0]) 29)) := by kernel_rfl
theorem wpList_alloc8 {ops : Array Oper} {rest : List Oper} {o : Oper} {a : Act} {w : World} {Q : Exit → Act → World → Prop} (hg : o.guard = none) (ho : o.op = .alloc 29)
    (h : wpList Try.prog ops Q rest (a.put o.dst (.pointer (some ⟨w.heap.size, 0, none⟩))) (w.alloc (.cells (arr [0, 0, 0, 0, 0, 0, 0, 0]) 29))) : wpList Try.prog ops Q (o :: rest) a w := by
  refine wpList_plain hg fun K hK => ?_
  unfold Oper.wp
  simp only [execOp, ho, Sem.run_bind, alloc_run8, Result.andThen_ok, Sem.run_pure, Oper.upon_value]
  exact hK _ _ h

set_option maxRecDepth 100000 in
set_option maxHeartbeats 4000000 in
theorem step_any (s : List Nat) (h8 : Is8 s) (r w0 : Nat) (w : World) :
    Calls Try.prog 26 #[.agg (arr s), .int .u32 (r : Int), .int .u32 (w0 : Int)] w fun e w' => e = .returned (.agg (arr (stepN s r w0))) ∧ Below w.heap.size w w' := by
  obtain ⟨a, b, c, d, e, f, g, k, rfl, ha, hb, hc, hd, he, hf, hg, hk⟩ := h8.parts
  obtain ⟨w1, hw1⟩ : ∃ w1, w1 = w.alloc (.cells (arr [a, b, c, d, e, f, g, k]) 29) := ⟨_, rfl⟩
  have hat : ArrAt 29 w1 w.heap.size [a, b, c, d, e, f, g, k] := by rw [hw1]; exact ArrAt.new _ _ _
  have hs1 : w1.heap.size = w.heap.size + 1 := by rw [hw1]; simp
  have hbel1 : Below w.heap.size w w1 := by rw [hw1]; exact (Below.refl _ _).alloc (Nat.le_refl _) _
  have HW1 := Lib.hid hw1
  obtain ⟨w2, hw2⟩ : ∃ w2, w2 = w1.alloc (.cells (arr [0, 0, 0, 0, 0, 0, 0, 0]) 29) := ⟨_, rfl⟩
  have hat2 : ArrAt 29 w2 w1.heap.size [0, 0, 0, 0, 0, 0, 0, 0] := by rw [hw2]; exact ArrAt.new _ _ _
  have hbel12 : Below w1.heap.size w1 w2 := by rw [hw2]; exact (Below.refl _ _).alloc (Nat.le_refl _) _
  have HAT2 := Lib.hid hat2
  have HAT := Lib.hid (hat.below hbel12)
  have HB2 := Lib.hid (hbel1.trans (hbel12.mono hbel1.size))
  have HW2 := Lib.hid hw2
  rw [hs1] at HAT2
  clear hw1 hw2 hat hat2 hbel1 hbel12
  go_enter Try.func26, Try.ntmps26
  go_wp2_with (first | (with_reducible refine wpList_box_arr (T := 29) (l := [a, b, c, d, e, f, g, k]) rfl (.tmp 0) rfl rfl ?_) | (with_reducible refine wpList_alloc8 rfl rfl ?_))
  rw [← HW1.out, ← HW2.out, hs1]
  simp only [Act.put, List.setIfInBounds_toArray, List.set_cons_zero, List.set_cons_succ]
  obtain ⟨G, hG⟩ : ∃ G, G = w.heap.size := ⟨_, rfl⟩
  have HG := Lib.hid hG
  rw [← hG] at HAT HAT2 ⊢
  clear hG hs1
  have ld : ∀ j x, j < 8 → ([a, b, c, d, e, f, g, k].getD j 0 = x) → ∀ w', Below w2.heap.size w2 w' → w'.cell? ⟨G, j, none⟩ = some (.int .u32 (x : Int)) := fun j x hj hx w' h => by
    rw [← hx]; exact (HAT.out.below h).cell hj
  have L0 := Lib.hid (ld 0 a (by omega) rfl)
  have L1 := Lib.hid (ld 1 b (by omega) rfl)
  have L2 := Lib.hid (ld 2 c (by omega) rfl)
  have L3 := Lib.hid (ld 3 d (by omega) rfl)
  have L4 := Lib.hid (ld 4 e (by omega) rfl)
  have L5 := Lib.hid (ld 5 f (by omega) rfl)
  have L6 := Lib.hid (ld 6 g (by omega) rfl)
  have L7 := Lib.hid (ld 7 k (by omega) rfl)
  clear ld
  -- the numbers, each by its name
  have r1 := rotN_lt he (n := 6) (by omega)
  have r2 := rotN_lt he (n := 11) (by omega)
  have r3 := rotN_lt he (n := 25) (by omega)
  have r4 := rotN_lt ha (n := 2) (by omega)
  have r5 := rotN_lt ha (n := 13) (by omega)
  have r6 := rotN_lt ha (n := 22) (by omega)
  have T1 := Lib.hid (turn_any e 6 · he (by omega) (by omega))
  have T2 := Lib.hid (turn_any e 11 · he (by omega) (by omega))
  have T3 := Lib.hid (turn_any e 25 · he (by omega) (by omega))
  have T4 := Lib.hid (turn_any a 2 · ha (by omega) (by omega))
  have T5 := Lib.hid (turn_any a 13 · ha (by omega) (by omega))
  have T6 := Lib.hid (turn_any a 22 · ha (by omega) (by omega))
  have X1 := Lib.hid (u32_xor_nat (rotN e 6) (rotN e 11) r1 r2)
  have X2 : Hid (bits BinOp.xor IntKind.u32 ((rotN e 6 ^^^ rotN e 11 : Nat) : Int) ((rotN e 25 : Nat) : Int) = ((bigS e : Nat) : Int)) := u32_xor_nat _ _ (xor_lt32 r1 r2) r3
  have X3 := Lib.hid (u32_xor_nat (rotN a 2) (rotN a 13) r4 r5)
  have X4 : Hid (bits BinOp.xor IntKind.u32 ((rotN a 2 ^^^ rotN a 13 : Nat) : Int) ((rotN a 22 : Nat) : Int) = ((smlS a : Nat) : Int)) := u32_xor_nat _ _ (xor_lt32 r4 r5) r6
  have E1 := Lib.hid (u32_and_nat e f he hf)
  obtain ⟨N1, hN1⟩ : ∃ x, x = 4294967295 - e := ⟨_, rfl⟩
  have hN1l : N1 < 4294967296 := by omega
  have E2 : Hid (bits BinOp.xor IntKind.u32 (if IntKind.u32.signed = true then -1 else IntKind.u32.max) (e : Int) = (N1 : Int)) := by
    show _ = _
    rw [hN1, ← compl32 e he]; exact u32_xor_nat 4294967295 e (by omega) he
  have E3 := Lib.hid (u32_and_nat N1 g hN1l hg)
  have E4 : Hid (bits BinOp.xor IntKind.u32 ((e &&& f : Nat) : Int) ((N1 &&& g : Nat) : Int) = ((chN e f g : Nat) : Int)) := by
    show _ = _
    unfold chN
    rw [← hN1]
    exact u32_xor_nat _ _ (and_lt32 _ he) (and_lt32 _ hN1l)
  have M1 := Lib.hid (u32_and_nat a b ha hb)
  have M2 := Lib.hid (u32_and_nat a c ha hc)
  have M3 := Lib.hid (u32_and_nat b c hb hc)
  have M4 := Lib.hid (u32_xor_nat (a &&& b) (a &&& c) (and_lt32 _ ha) (and_lt32 _ ha))
  have M5 : Hid (bits BinOp.xor IntKind.u32 (((a &&& b) ^^^ (a &&& c) : Nat) : Int) ((b &&& c : Nat) : Int) = ((majN a b c : Nat) : Int)) := u32_xor_nat _ _ (xor_lt32 (and_lt32 _ ha) (and_lt32 _ ha)) (and_lt32 _ hb)
  obtain ⟨x1, hx1⟩ : ∃ x, x = (k + bigS e) % 4294967296 := ⟨_, rfl⟩
  obtain ⟨x2, hx2⟩ : ∃ x, x = (x1 + chN e f g) % 4294967296 := ⟨_, rfl⟩
  obtain ⟨x3, hx3⟩ : ∃ x, x = (x2 + r) % 4294967296 := ⟨_, rfl⟩
  obtain ⟨XX, hXX⟩ : ∃ x, x = (x3 + w0) % 4294967296 := ⟨_, rfl⟩
  obtain ⟨YY, hYY⟩ : ∃ x, x = (smlS a + majN a b c) % 4294967296 := ⟨_, rfl⟩
  obtain ⟨XY, hXY⟩ : ∃ x, x = (XX + YY) % 4294967296 := ⟨_, rfl⟩
  obtain ⟨DX, hDX⟩ : ∃ x, x = (d + XX) % 4294967296 := ⟨_, rfl⟩
  have A1 : Hid (IntKind.u32.wrap ((k : Int) + ((bigS e : Nat) : Int)) = (x1 : Int)) := by show _ = _; rw [add32, hx1]
  have A2 : Hid (IntKind.u32.wrap ((x1 : Int) + ((chN e f g : Nat) : Int)) = (x2 : Int)) := by show _ = _; rw [add32, hx2]
  have A3 : Hid (IntKind.u32.wrap ((x2 : Int) + (r : Int)) = (x3 : Int)) := by show _ = _; rw [add32, hx3]
  have A4 : Hid (IntKind.u32.wrap ((x3 : Int) + (w0 : Int)) = (XX : Int)) := by show _ = _; rw [add32, hXX]
  have A5 : Hid (IntKind.u32.wrap (((smlS a : Nat) : Int) + ((majN a b c : Nat) : Int)) = (YY : Int)) := by show _ = _; rw [add32, hYY]
  have A6 : Hid (IntKind.u32.wrap ((XX : Int) + (YY : Int)) = (XY : Int)) := by show _ = _; rw [add32, hXY]
  have A7 : Hid (IntKind.u32.wrap ((d : Int) + (XX : Int)) = (DX : Int)) := by show _ = _; rw [add32, hDX]
  have hXXe : XX = (k + bigS e + chN e f g + r + w0) % 4294967296 := by omega
  have HRES : Hid (stepN [a, b, c, d, e, f, g, k] r w0 = [XY, a, b, c, DX, e, f, g]) := by
    show _ = _
    rw [hXY, hDX, hYY, hXXe]; rfl
  clear hx1 hx2 hx3 hXY hDX hXXe hN1 hN1l
  clear hXX hYY r1 r2 r3 r4 r5 r6
  refine hStart (fun w' => Below w2.heap.size w2 w') (by kernel_rfl) ?_
  have hHeld := (Below.refl w2.heap.size w2).drew
  refine hTake 0 (v := ?_) rfl (by kernel_rfl) (by kernel_rfl) (by kernel_rfl) (fun _ _ _ h => h) (by rfl) ?_ hHeld ?_
  rotate_left
  · intro w hSw; (try dsimp only at hSw); go_simp; (try with_reducible rfl)
  try simp only [Act.put, List.setIfInBounds_toArray, List.set_cons_zero, List.set_cons_succ]
  refine hTake 1 (v := (.int .u32 (a : Int))) rfl (by kernel_rfl) (by kernel_rfl) (by kernel_rfl) (fun _ _ _ h => h) (by rfl) ?_ hHeld ?_
  · intro w hSw; have h1 := L0.out w hSw; go_simp; (try with_reducible rfl)
  try simp only [Act.put, List.setIfInBounds_toArray, List.set_cons_zero, List.set_cons_succ]
  refine hTake 2 (v := ?_) rfl (by kernel_rfl) (by kernel_rfl) (by kernel_rfl) (fun _ _ _ h => h) (by rfl) ?_ hHeld ?_
  rotate_left
  · intro w hSw; (try dsimp only at hSw); go_simp; (try with_reducible rfl)
  try simp only [Act.put, List.setIfInBounds_toArray, List.set_cons_zero, List.set_cons_succ]
  refine hTake 3 (v := (.int .u32 (e : Int))) rfl (by kernel_rfl) (by kernel_rfl) (by kernel_rfl) (fun _ _ _ h => h) (by rfl) ?_ hHeld ?_
  · intro w hSw; have h1 := L4.out w hSw; go_simp; (try with_reducible rfl)
  try simp only [Act.put, List.setIfInBounds_toArray, List.set_cons_zero, List.set_cons_succ]
  refine hTake 4 (v := ?_) rfl (by kernel_rfl) (by kernel_rfl) (by kernel_rfl) (fun _ _ _ h => h) (by rfl) ?_ hHeld ?_
  rotate_left
  · intro w hSw; (try dsimp only at hSw); go_simp; (try with_reducible rfl)
  try simp only [Act.put, List.setIfInBounds_toArray, List.set_cons_zero, List.set_cons_succ]
  refine hTake 5 (v := ?_) rfl (by kernel_rfl) (by kernel_rfl) (by kernel_rfl) (fun _ _ _ h => h) (by rfl) ?_ hHeld ?_
  rotate_left
  · intro w hSw; (try dsimp only at hSw); go_simp; (try with_reducible rfl)
  try simp only [Act.put, List.setIfInBounds_toArray, List.set_cons_zero, List.set_cons_succ]
  refine hDone (by kernel_rfl) ?_
  show NoPanic _ _ _ _
  refine NoPanic.normal ?_
  go_wp2_with fail
  refine hStart (fun w' => Below w2.heap.size w2 w') (by kernel_rfl) ?_
  have hHeld := (Below.refl w2.heap.size w2).drew.drew
  refine hTake 0 (v := ?_) rfl (by kernel_rfl) (by kernel_rfl) (by kernel_rfl) (fun _ _ _ h => h) (by rfl) ?_ hHeld ?_
  rotate_left
  · intro w hSw; (try dsimp only at hSw); go_simp; (try with_reducible rfl)
  try simp only [Act.put, List.setIfInBounds_toArray, List.set_cons_zero, List.set_cons_succ]
  refine hTake 2 (v := ?_) rfl (by kernel_rfl) (by kernel_rfl) (by kernel_rfl) (fun _ _ _ h => h) (by rfl) ?_ hHeld ?_
  rotate_left
  · intro w hSw; (try dsimp only at hSw); go_simp; (try with_reducible rfl)
  try simp only [Act.put, List.setIfInBounds_toArray, List.set_cons_zero, List.set_cons_succ]
  refine hTake 4 (v := ?_) rfl (by kernel_rfl) (by kernel_rfl) (by kernel_rfl) (fun _ _ _ h => h) (by rfl) ?_ hHeld ?_
  rotate_left
  · intro w hSw; (try dsimp only at hSw); go_simp; (try with_reducible rfl)
  try simp only [Act.put, List.setIfInBounds_toArray, List.set_cons_zero, List.set_cons_succ]
  refine hTake 7 (v := ?_) rfl (by kernel_rfl) (by kernel_rfl) (by kernel_rfl) (fun _ _ _ h => h) (by rfl) ?_ hHeld ?_
  rotate_left
  · intro w hSw; (try dsimp only at hSw); go_simp; (try with_reducible rfl)
  try simp only [Act.put, List.setIfInBounds_toArray, List.set_cons_zero, List.set_cons_succ]
  refine hTake 11 (v := ?_) rfl (by kernel_rfl) (by kernel_rfl) (by kernel_rfl) (fun _ _ _ h => h) (by rfl) ?_ hHeld ?_
  rotate_left
  · intro w hSw; (try dsimp only at hSw); go_simp; (try with_reducible rfl)
  try simp only [Act.put, List.setIfInBounds_toArray, List.set_cons_zero, List.set_cons_succ]
  refine hTake 12 (v := ?_) rfl (by kernel_rfl) (by kernel_rfl) (by kernel_rfl) (fun _ _ _ h => h) (by rfl) ?_ hHeld ?_
  rotate_left
  · intro w hSw; (try dsimp only at hSw); go_simp; (try with_reducible rfl)
  try simp only [Act.put, List.setIfInBounds_toArray, List.set_cons_zero, List.set_cons_succ]
  refine hTake 15 (v := ?_) rfl (by kernel_rfl) (by kernel_rfl) (by kernel_rfl) (fun _ _ _ h => h) (by rfl) ?_ hHeld ?_
  rotate_left
  · intro w hSw; (try dsimp only at hSw); go_simp; (try with_reducible rfl)
  try simp only [Act.put, List.setIfInBounds_toArray, List.set_cons_zero, List.set_cons_succ]
  refine hTake 17 (v := ?_) rfl (by kernel_rfl) (by kernel_rfl) (by kernel_rfl) (fun _ _ _ h => h) (by rfl) ?_ hHeld ?_
  rotate_left
  · intro w hSw; (try dsimp only at hSw); go_simp; (try with_reducible rfl)
  try simp only [Act.put, List.setIfInBounds_toArray, List.set_cons_zero, List.set_cons_succ]
  refine hTake 22 (v := ?_) rfl (by kernel_rfl) (by kernel_rfl) (by kernel_rfl) (fun _ _ _ h => h) (by rfl) ?_ hHeld ?_
  rotate_left
  · intro w hSw; (try dsimp only at hSw); go_simp; (try with_reducible rfl)
  try simp only [Act.put, List.setIfInBounds_toArray, List.set_cons_zero, List.set_cons_succ]
  refine hTake 24 (v := ?_) rfl (by kernel_rfl) (by kernel_rfl) (by kernel_rfl) (fun _ _ _ h => h) (by rfl) ?_ hHeld ?_
  rotate_left
  · intro w hSw; (try dsimp only at hSw); go_simp; (try with_reducible rfl)
  try simp only [Act.put, List.setIfInBounds_toArray, List.set_cons_zero, List.set_cons_succ]
  refine hTake 1 (v := (.int .u32 (k : Int))) rfl (by kernel_rfl) (by kernel_rfl) (by kernel_rfl) (fun _ _ _ h => h) (by rfl) ?_ hHeld ?_
  · intro w hSw; have h1 := L7.out w hSw; go_simp; (try with_reducible rfl)
  try simp only [Act.put, List.setIfInBounds_toArray, List.set_cons_zero, List.set_cons_succ]
  refine hTake 13 (v := (.int .u32 (f : Int))) rfl (by kernel_rfl) (by kernel_rfl) (by kernel_rfl) (fun _ _ _ h => h) (by rfl) ?_ hHeld ?_
  · intro w hSw; have h1 := L5.out w hSw; go_simp; (try with_reducible rfl)
  try simp only [Act.put, List.setIfInBounds_toArray, List.set_cons_zero, List.set_cons_succ]
  refine hTake 18 (v := (.int .u32 (g : Int))) rfl (by kernel_rfl) (by kernel_rfl) (by kernel_rfl) (fun _ _ _ h => h) (by rfl) ?_ hHeld ?_
  · intro w hSw; have h1 := L6.out w hSw; go_simp; (try with_reducible rfl)
  try simp only [Act.put, List.setIfInBounds_toArray, List.set_cons_zero, List.set_cons_succ]
  refine hTake 14 (v := (.int .u32 ((e &&& f : Nat) : Int))) rfl (by kernel_rfl) (by kernel_rfl) (by kernel_rfl) (fun _ _ _ h => h) (by rfl) ?_ hHeld ?_
  · intro w hSw; have h1 := E1.out; go_simp; (try with_reducible rfl)
  try simp only [Act.put, List.setIfInBounds_toArray, List.set_cons_zero, List.set_cons_succ]
  refine hTake 16 (v := (.int .u32 (N1 : Int))) rfl (by kernel_rfl) (by kernel_rfl) (by kernel_rfl) (fun _ _ _ h => h) (by rfl) ?_ hHeld ?_
  · intro w hSw; have h1 := E2.out; go_simp; (try with_reducible rfl)
  try simp only [Act.put, List.setIfInBounds_toArray, List.set_cons_zero, List.set_cons_succ]
  refine hTake 19 (v := (.int .u32 ((N1 &&& g : Nat) : Int))) rfl (by kernel_rfl) (by kernel_rfl) (by kernel_rfl) (fun _ _ _ h => h) (by rfl) ?_ hHeld ?_
  · intro w hSw; have h1 := E3.out; go_simp; (try with_reducible rfl)
  try simp only [Act.put, List.setIfInBounds_toArray, List.set_cons_zero, List.set_cons_succ]
  refine hTake 20 (v := (.int .u32 ((chN e f g : Nat) : Int))) rfl (by kernel_rfl) (by kernel_rfl) (by kernel_rfl) (fun _ _ _ h => h) (by rfl) ?_ hHeld ?_
  · intro w hSw; have h1 := E4.out; go_simp; (try with_reducible rfl)
  try simp only [Act.put, List.setIfInBounds_toArray, List.set_cons_zero, List.set_cons_succ]
  refine hStep 3 rfl (by kernel_rfl) (by rfl) (fun K hK => ?_)
  have HK := Lib.hid hK
  clear hK
  go_simp
  refine (T1.out _).mono ?_
  rintro e1 w3 ⟨rfl, rfl⟩
  have hHeldN := hHeld.drew
  refine HK.out _ _ hHeldN ?_
  clear HK K hHeld
  have hHeld := hHeldN
  clear hHeldN
  try simp only [Act.put, List.setIfInBounds_toArray, List.set_cons_zero, List.set_cons_succ]
  refine hStep 5 rfl (by kernel_rfl) (by rfl) (fun K hK => ?_)
  have HK := Lib.hid hK
  clear hK
  go_simp
  refine (T2.out _).mono ?_
  rintro e1 w3 ⟨rfl, rfl⟩
  have hHeldN := hHeld.drew
  refine HK.out _ _ hHeldN ?_
  clear HK K hHeld
  have hHeld := hHeldN
  clear hHeldN
  try simp only [Act.put, List.setIfInBounds_toArray, List.set_cons_zero, List.set_cons_succ]
  refine hTake 6 (v := (.int .u32 ((rotN e 6 ^^^ rotN e 11 : Nat) : Int))) rfl (by kernel_rfl) (by kernel_rfl) (by kernel_rfl) (fun _ _ _ h => h) (by rfl) ?_ hHeld ?_
  · intro w hSw; have h1 := X1.out; go_simp; (try with_reducible rfl)
  try simp only [Act.put, List.setIfInBounds_toArray, List.set_cons_zero, List.set_cons_succ]
  refine hStep 8 rfl (by kernel_rfl) (by rfl) (fun K hK => ?_)
  have HK := Lib.hid hK
  clear hK
  go_simp
  refine (T3.out _).mono ?_
  rintro e1 w3 ⟨rfl, rfl⟩
  have hHeldN := hHeld.drew
  refine HK.out _ _ hHeldN ?_
  clear HK K hHeld
  have hHeld := hHeldN
  clear hHeldN
  try simp only [Act.put, List.setIfInBounds_toArray, List.set_cons_zero, List.set_cons_succ]
  refine hTake 9 (v := (.int .u32 ((bigS e : Nat) : Int))) rfl (by kernel_rfl) (by kernel_rfl) (by kernel_rfl) (fun _ _ _ h => h) (by rfl) ?_ hHeld ?_
  · intro w hSw; have h1 := X2.out; go_simp; (try with_reducible rfl)
  try simp only [Act.put, List.setIfInBounds_toArray, List.set_cons_zero, List.set_cons_succ]
  refine hTake 10 (v := (.int .u32 (x1 : Int))) rfl (by kernel_rfl) (by kernel_rfl) (by kernel_rfl) (fun _ _ _ h => h) (by rfl) ?_ hHeld ?_
  · intro w hSw; have h1 := A1.out; go_simp; (try with_reducible rfl)
  try simp only [Act.put, List.setIfInBounds_toArray, List.set_cons_zero, List.set_cons_succ]
  refine hTake 21 (v := (.int .u32 (x2 : Int))) rfl (by kernel_rfl) (by kernel_rfl) (by kernel_rfl) (fun _ _ _ h => h) (by rfl) ?_ hHeld ?_
  · intro w hSw; have h1 := A2.out; go_simp; (try with_reducible rfl)
  try simp only [Act.put, List.setIfInBounds_toArray, List.set_cons_zero, List.set_cons_succ]
  refine hTake 23 (v := (.int .u32 (x3 : Int))) rfl (by kernel_rfl) (by kernel_rfl) (by kernel_rfl) (fun _ _ _ h => h) (by rfl) ?_ hHeld ?_
  · intro w hSw; have h1 := A3.out; go_simp; (try with_reducible rfl)
  try simp only [Act.put, List.setIfInBounds_toArray, List.set_cons_zero, List.set_cons_succ]
  refine hTake 25 (v := (.int .u32 (XX : Int))) rfl (by kernel_rfl) (by kernel_rfl) (by kernel_rfl) (fun _ _ _ h => h) (by rfl) ?_ hHeld ?_
  · intro w hSw; have h1 := A4.out; go_simp; (try with_reducible rfl)
  try simp only [Act.put, List.setIfInBounds_toArray, List.set_cons_zero, List.set_cons_succ]
  refine hTake 26 (v := ?_) rfl (by kernel_rfl) (by kernel_rfl) (by kernel_rfl) (fun _ _ _ h => h) (by rfl) ?_ hHeld ?_
  rotate_left
  · intro w hSw; (try dsimp only at hSw); go_simp; (try with_reducible rfl)
  try simp only [Act.put, List.setIfInBounds_toArray, List.set_cons_zero, List.set_cons_succ]
  refine hDone (by kernel_rfl) ?_
  show NoPanic _ _ _ _
  refine NoPanic.normal ?_
  have hBx := hHeld
  go_wp2_with fail
  refine hStart (fun w' => Below w2.heap.size w2 w') (by kernel_rfl) ?_
  have hHeld := hBx.drew
  refine hTake 0 (v := ?_) rfl (by kernel_rfl) (by kernel_rfl) (by kernel_rfl) (fun _ _ _ h => h) (by rfl) ?_ hHeld ?_
  rotate_left
  · intro w hSw; (try dsimp only at hSw); go_simp; (try with_reducible rfl)
  try simp only [Act.put, List.setIfInBounds_toArray, List.set_cons_zero, List.set_cons_succ]
  refine hTake 2 (v := ?_) rfl (by kernel_rfl) (by kernel_rfl) (by kernel_rfl) (fun _ _ _ h => h) (by rfl) ?_ hHeld ?_
  rotate_left
  · intro w hSw; (try dsimp only at hSw); go_simp; (try with_reducible rfl)
  try simp only [Act.put, List.setIfInBounds_toArray, List.set_cons_zero, List.set_cons_succ]
  refine hTake 5 (v := ?_) rfl (by kernel_rfl) (by kernel_rfl) (by kernel_rfl) (fun _ _ _ h => h) (by rfl) ?_ hHeld ?_
  rotate_left
  · intro w hSw; (try dsimp only at hSw); go_simp; (try with_reducible rfl)
  try simp only [Act.put, List.setIfInBounds_toArray, List.set_cons_zero, List.set_cons_succ]
  refine hTake 8 (v := ?_) rfl (by kernel_rfl) (by kernel_rfl) (by kernel_rfl) (fun _ _ _ h => h) (by rfl) ?_ hHeld ?_
  rotate_left
  · intro w hSw; (try dsimp only at hSw); go_simp; (try with_reducible rfl)
  try simp only [Act.put, List.setIfInBounds_toArray, List.set_cons_zero, List.set_cons_succ]
  refine hTake 9 (v := ?_) rfl (by kernel_rfl) (by kernel_rfl) (by kernel_rfl) (fun _ _ _ h => h) (by rfl) ?_ hHeld ?_
  rotate_left
  · intro w hSw; (try dsimp only at hSw); go_simp; (try with_reducible rfl)
  try simp only [Act.put, List.setIfInBounds_toArray, List.set_cons_zero, List.set_cons_succ]
  refine hTake 12 (v := ?_) rfl (by kernel_rfl) (by kernel_rfl) (by kernel_rfl) (fun _ _ _ h => h) (by rfl) ?_ hHeld ?_
  rotate_left
  · intro w hSw; (try dsimp only at hSw); go_simp; (try with_reducible rfl)
  try simp only [Act.put, List.setIfInBounds_toArray, List.set_cons_zero, List.set_cons_succ]
  refine hTake 13 (v := ?_) rfl (by kernel_rfl) (by kernel_rfl) (by kernel_rfl) (fun _ _ _ h => h) (by rfl) ?_ hHeld ?_
  rotate_left
  · intro w hSw; (try dsimp only at hSw); go_simp; (try with_reducible rfl)
  try simp only [Act.put, List.setIfInBounds_toArray, List.set_cons_zero, List.set_cons_succ]
  refine hTake 17 (v := ?_) rfl (by kernel_rfl) (by kernel_rfl) (by kernel_rfl) (fun _ _ _ h => h) (by rfl) ?_ hHeld ?_
  rotate_left
  · intro w hSw; (try dsimp only at hSw); go_simp; (try with_reducible rfl)
  try simp only [Act.put, List.setIfInBounds_toArray, List.set_cons_zero, List.set_cons_succ]
  refine hTake 19 (v := ?_) rfl (by kernel_rfl) (by kernel_rfl) (by kernel_rfl) (fun _ _ _ h => h) (by rfl) ?_ hHeld ?_
  rotate_left
  · intro w hSw; (try dsimp only at hSw); go_simp; (try with_reducible rfl)
  try simp only [Act.put, List.setIfInBounds_toArray, List.set_cons_zero, List.set_cons_succ]
  refine hTake 10 (v := (.int .u32 (b : Int))) rfl (by kernel_rfl) (by kernel_rfl) (by kernel_rfl) (fun _ _ _ h => h) (by rfl) ?_ hHeld ?_
  · intro w hSw; have h1 := L1.out w hSw; go_simp; (try with_reducible rfl)
  try simp only [Act.put, List.setIfInBounds_toArray, List.set_cons_zero, List.set_cons_succ]
  refine hTake 14 (v := (.int .u32 (c : Int))) rfl (by kernel_rfl) (by kernel_rfl) (by kernel_rfl) (fun _ _ _ h => h) (by rfl) ?_ hHeld ?_
  · intro w hSw; have h1 := L2.out w hSw; go_simp; (try with_reducible rfl)
  try simp only [Act.put, List.setIfInBounds_toArray, List.set_cons_zero, List.set_cons_succ]
  refine hTake 18 (v := (.int .u32 (b : Int))) rfl (by kernel_rfl) (by kernel_rfl) (by kernel_rfl) (fun _ _ _ h => h) (by rfl) ?_ hHeld ?_
  · intro w hSw; have h1 := L1.out w hSw; go_simp; (try with_reducible rfl)
  try simp only [Act.put, List.setIfInBounds_toArray, List.set_cons_zero, List.set_cons_succ]
  refine hTake 20 (v := (.int .u32 (c : Int))) rfl (by kernel_rfl) (by kernel_rfl) (by kernel_rfl) (fun _ _ _ h => h) (by rfl) ?_ hHeld ?_
  · intro w hSw; have h1 := L2.out w hSw; go_simp; (try with_reducible rfl)
  try simp only [Act.put, List.setIfInBounds_toArray, List.set_cons_zero, List.set_cons_succ]
  refine hTake 11 (v := (.int .u32 ((a &&& b : Nat) : Int))) rfl (by kernel_rfl) (by kernel_rfl) (by kernel_rfl) (fun _ _ _ h => h) (by rfl) ?_ hHeld ?_
  · intro w hSw; have h1 := M1.out; go_simp; (try with_reducible rfl)
  try simp only [Act.put, List.setIfInBounds_toArray, List.set_cons_zero, List.set_cons_succ]
  refine hTake 15 (v := (.int .u32 ((a &&& c : Nat) : Int))) rfl (by kernel_rfl) (by kernel_rfl) (by kernel_rfl) (fun _ _ _ h => h) (by rfl) ?_ hHeld ?_
  · intro w hSw; have h1 := M2.out; go_simp; (try with_reducible rfl)
  try simp only [Act.put, List.setIfInBounds_toArray, List.set_cons_zero, List.set_cons_succ]
  refine hTake 16 (v := (.int .u32 (((a &&& b) ^^^ (a &&& c) : Nat) : Int))) rfl (by kernel_rfl) (by kernel_rfl) (by kernel_rfl) (fun _ _ _ h => h) (by rfl) ?_ hHeld ?_
  · intro w hSw; have h1 := M4.out; go_simp; (try with_reducible rfl)
  try simp only [Act.put, List.setIfInBounds_toArray, List.set_cons_zero, List.set_cons_succ]
  refine hTake 21 (v := (.int .u32 ((b &&& c : Nat) : Int))) rfl (by kernel_rfl) (by kernel_rfl) (by kernel_rfl) (fun _ _ _ h => h) (by rfl) ?_ hHeld ?_
  · intro w hSw; have h1 := M3.out; go_simp; (try with_reducible rfl)
  try simp only [Act.put, List.setIfInBounds_toArray, List.set_cons_zero, List.set_cons_succ]
  refine hTake 22 (v := (.int .u32 ((majN a b c : Nat) : Int))) rfl (by kernel_rfl) (by kernel_rfl) (by kernel_rfl) (fun _ _ _ h => h) (by rfl) ?_ hHeld ?_
  · intro w hSw; have h1 := M5.out; go_simp; (try with_reducible rfl)
  try simp only [Act.put, List.setIfInBounds_toArray, List.set_cons_zero, List.set_cons_succ]
  refine hStep 1 rfl (by kernel_rfl) (by rfl) (fun K hK => ?_)
  have HK := Lib.hid hK
  clear hK
  go_simp
  refine (T4.out _).mono ?_
  rintro e1 w3 ⟨rfl, rfl⟩
  have hHeldN := hHeld.drew
  refine HK.out _ _ hHeldN ?_
  clear HK K hHeld
  have hHeld := hHeldN
  clear hHeldN
  try simp only [Act.put, List.setIfInBounds_toArray, List.set_cons_zero, List.set_cons_succ]
  refine hStep 3 rfl (by kernel_rfl) (by rfl) (fun K hK => ?_)
  have HK := Lib.hid hK
  clear hK
  go_simp
  refine (T5.out _).mono ?_
  rintro e1 w3 ⟨rfl, rfl⟩
  have hHeldN := hHeld.drew
  refine HK.out _ _ hHeldN ?_
  clear HK K hHeld
  have hHeld := hHeldN
  clear hHeldN
  try simp only [Act.put, List.setIfInBounds_toArray, List.set_cons_zero, List.set_cons_succ]
  refine hTake 4 (v := (.int .u32 ((rotN a 2 ^^^ rotN a 13 : Nat) : Int))) rfl (by kernel_rfl) (by kernel_rfl) (by kernel_rfl) (fun _ _ _ h => h) (by rfl) ?_ hHeld ?_
  · intro w hSw; have h1 := X3.out; go_simp; (try with_reducible rfl)
  try simp only [Act.put, List.setIfInBounds_toArray, List.set_cons_zero, List.set_cons_succ]
  refine hStep 6 rfl (by kernel_rfl) (by rfl) (fun K hK => ?_)
  have HK := Lib.hid hK
  clear hK
  go_simp
  refine (T6.out _).mono ?_
  rintro e1 w3 ⟨rfl, rfl⟩
  have hHeldN := hHeld.drew
  refine HK.out _ _ hHeldN ?_
  clear HK K hHeld
  have hHeld := hHeldN
  clear hHeldN
  try simp only [Act.put, List.setIfInBounds_toArray, List.set_cons_zero, List.set_cons_succ]
  refine hTake 7 (v := (.int .u32 ((smlS a : Nat) : Int))) rfl (by kernel_rfl) (by kernel_rfl) (by kernel_rfl) (fun _ _ _ h => h) (by rfl) ?_ hHeld ?_
  · intro w hSw; have h1 := X4.out; go_simp; (try with_reducible rfl)
  try simp only [Act.put, List.setIfInBounds_toArray, List.set_cons_zero, List.set_cons_succ]
  refine hTake 23 (v := (.int .u32 (YY : Int))) rfl (by kernel_rfl) (by kernel_rfl) (by kernel_rfl) (fun _ _ _ h => h) (by rfl) ?_ hHeld ?_
  · intro w hSw; have h1 := A5.out; go_simp; (try with_reducible rfl)
  try simp only [Act.put, List.setIfInBounds_toArray, List.set_cons_zero, List.set_cons_succ]
  refine hTake 24 (v := ?_) rfl (by kernel_rfl) (by kernel_rfl) (by kernel_rfl) (fun _ _ _ h => h) (by rfl) ?_ hHeld ?_
  rotate_left
  · intro w hSw; (try dsimp only at hSw); go_simp; (try with_reducible rfl)
  try simp only [Act.put, List.setIfInBounds_toArray, List.set_cons_zero, List.set_cons_succ]
  refine hDone (by kernel_rfl) ?_
  show NoPanic _ _ _ _
  refine NoPanic.normal ?_
  have hB5 : Below w2.heap.size w2 w2.drew.drew.drew.drew.drew.drew.drew.drew.drew := hHeld
  generalize w2.drew.drew.drew.drew.drew.drew.drew.drew.drew = w5 at *
  have l1 := L1.out w5 hB5
  have l2 := L2.out w5 hB5
  have l3 := L3.out w5 hB5
  have l5 := L5.out w5 hB5
  have l6 := L6.out w5 hB5
  have a6 := A6.out
  have a7 := A7.out
  have b6 : ((XX : Int) + (YY : Int)) % 4294967296 = (XY : Int) := by rw [← A6.out, IntKind.wrap_u32']
  have b7 : ((d : Int) + (XX : Int)) % 4294967296 = (DX : Int) := by rw [← A7.out, IntKind.wrap_u32']
  have HAT5 := Lib.hid (HAT2.out.below hB5)
  clear hBx hHeld
  go_wp2_with (with_reducible refine wpList_store_arr (T := 29) (n := 8) info_8 rfl (.tmp 6) (.tmp 82) rfl rfl [XY, a, b, c, DX, e, f, g] rfl rfl rfl HAT5.out ?_)
  refine bodyPost_ret (results_arr (T := 29) under_8 info_8 rfl _ rfl rfl (HAT5.out.row [XY, a, b, c, DX, e, f, g])) rfl ⟨by rw [HRES.out], ?_⟩
  exact below_setRow (HB2.out.trans (hB5.mono HB2.out.size)) (by have := HG.out; omega) _
end Go.Proofs.Ytegeglnfpddgfaa
