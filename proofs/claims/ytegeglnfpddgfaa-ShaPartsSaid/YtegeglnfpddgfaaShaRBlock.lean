/- The walk of the document's Block. -/
import Derived.Test.YtegeglnfpddgfaaShaRWords
namespace Go.Proofs.Ytegeglnfpddgfaa
open Go.RowKit

section
variable {T : TypeId} {w : World} {g : Nat} {l : List Nat} {ops : Array Oper} {rest : List Oper} {o : Oper} {a : Act} {Q : Exit → Act → World → Prop}
theorem wpList_box_arrn (hgd : o.guard = none) (x : Operand) (ho : o.op = .box T x) (hx : a.eval x = .agg (arr l))
    (h : ∀ w' G, Hid (G = w.heap.size) → Hid (ArrAt T w' G l) → Below w.heap.size w w' → wpList Try.prog ops Q rest (a.put o.dst (.pointer (some ⟨G, 0, none⟩))) w') : wpList Try.prog ops Q (o :: rest) a w :=
  wpList_box_arr hgd x ho hx (h _ _ rfl (ArrAt.new _ _ _) ((Below.refl _ _).alloc (Nat.le_refl _) _))
theorem wpList_alloc8m (hg : o.guard = none) (ho : o.op = .alloc 29)
    (h : ∀ w' G, Hid (G = w.heap.size) → Hid (ArrAt 29 w' G [0, 0, 0, 0, 0, 0, 0, 0]) → Below w.heap.size w w' → wpList Try.prog ops Q rest (a.put o.dst (.pointer (some ⟨G, 0, none⟩))) w') : wpList Try.prog ops Q (o :: rest) a w :=
  wpList_alloc8 hg ho (h _ _ rfl (ArrAt.new _ _ _) ((Below.refl _ _).alloc (Nat.le_refl _) _))
theorem wpList_alloc64m (hg : o.guard = none) (ho : o.op = .alloc 46)
    (h : ∀ w' G, Hid (G = w.heap.size) → Hid (ArrAt 46 w' G z64) → Below w.heap.size w w' → wpList Try.prog ops Q rest (a.put o.dst (.pointer (some ⟨G, 0, none⟩))) w') : wpList Try.prog ops Q (o :: rest) a w :=
  wpList_alloc64 hg ho (h _ _ rfl (ArrAt.new _ _ _) ((Below.refl _ _).alloc (Nat.le_refl _) _))
/-- A store of one word into an array of words: the world behind it by a name of its own. -/
theorem wpList_storeA1 (hgd : o.guard = none) (x y : Operand) (ho : o.op = .store 28 x y)
    (j : Nat) (hx : a.eval x = .pointer (some ⟨g, j, none⟩)) (d : Nat) (hy : a.eval y = .int .u32 (d : Int)) (hat : ArrAt T w g l) (l' : List Nat) (hl : j < l.length ∧ l.set j d = l')
    (h : ∀ w', Hid (ArrAt T w' g l') → Hid (Kept (· = g) w w') → wpList Try.prog ops Q rest (a.put o.dst undef) w') : wpList Try.prog ops Q (o :: rest) a w := by
  refine wpList_plain hgd fun K hK => ?_
  obtain ⟨hj, rfl⟩ := hl
  have h2 := h (w.setCell ⟨g, j, none⟩ (.int .u32 (d : Int))) (hat.set j d) (Kept.setCell (T := (· = g)) _ _ _ rfl)
  have hc := hat.cell hj
  have hf := hat.free j
  have hk := hK _ _ h2
  clear h h2 hK
  unfold Oper.wp execOp
  simp only [ho, hx, hy]
  go_simp
  exact hk
end
theorem wpList_storeA1z {T : TypeId} {w : World} {g : Nat} {l : List Nat} {ops : Array Oper} {rest : List Oper} {o : Oper} {a : Act} {Q : Exit → Act → World → Prop} {z : Int} (hgd : o.guard = none) (x y : Operand) (ho : o.op = .store 28 x y)
    (j : Nat) (hx : a.eval x = .pointer (some ⟨g, j, none⟩)) (d : Nat) (hy : a.eval y = .int .u32 z) (hz : z = (d : Int)) (hat : ArrAt T w g l) (l' : List Nat) (hl : j < l.length ∧ l.set j d = l')
    (h : ∀ w', Hid (ArrAt T w' g l') → Hid (Kept (· = g) w w') → wpList Try.prog ops Q rest (a.put o.dst undef) w') : wpList Try.prog ops Q (o :: rest) a w := by
  subst hz
  exact wpList_storeA1 hgd x y ho j hx d hy hat l' hl h
theorem lt32_of {a b : Nat} (h : a = b % 4294967296) : a < 4294967296 := by omega

set_option maxRecDepth 100000 in
set_option maxHeartbeats 2000000 in
theorem refBlock_any (s : List Nat) (h8 : Is8 s) (a : Option Addr) (b : List UInt8) (n cap : Nat) (w : World) (hn : n = b.length) (hn64 : n = 64) (hb : Bs w a cap b) :
    Calls Try.prog 16 #[.agg (arr s), .slice a n cap] w fun e w' => e = .returned (.agg (arr (blockN s b))) ∧ Below w.heap.size w w' := by
  have HN := Lib.hid hn
  have HB := Lib.hid hb
  have HN64 := Lib.hid hn64
  have H8 := Lib.hid h8
  have HL8 := Lib.hid h8.1
  have HZ8 : Hid (([0, 0, 0, 0, 0, 0, 0, 0] : List Nat).length = 8) := Lib.hid rfl
  clear hn hb hn64 h8
  go_enter Try.func16, Try.ntmps16
  go_wp2_with (first
    | (with_reducible refine wpList_box_arrn (T := 29) (l := s) rfl (.tmp 0) rfl rfl ?_; intro w1 A hA hatA hb1)
    | (with_reducible refine wpList_alloc8m rfl rfl ?_; intro w2 B hB hatB hb2))
  have HB1 := Lib.hid hb1
  have hb12 : Below w.heap.size w w2 := hb1.trans (hb2.mono hb1.size)
  have HA2 : Hid (ArrAt 29 w2 A s) := hatA.out.below hb2
  have hAB : A < B := by have := hatA.out.lt; have := hB.out; omega
  have hwA : w.heap.size ≤ A := Nat.le_of_eq hA.out.symm
  clear hb1 hb2
  refine (refWords_any a b n cap _ HN.out HN64.out (HB.out.below hb12)).mono ?_
  rintro e w3 ⟨rfl, hatW, hb3⟩
  obtain ⟨W, hW⟩ : ∃ W, W = w2.heap.size := ⟨_, rfl⟩
  rw [← hW] at hatW ⊢
  have hBW : B < W := by rw [hW]; exact hatB.out.lt
  have HATW := Lib.hid hatW
  have hb13 : Below w.heap.size w w3 := hb12.trans (hb3.mono hb12.size)
  have HA3 := Lib.hid (HA2.out.below hb3)
  have HB3 := Lib.hid (hatB.out.below hb3)
  clear hatW hW hb3
  go_wp2_with fail
  refine (known_any _).mono ?_
  rintro e w4 ⟨rfl, hb4⟩
  have hb14 : Below w.heap.size w w4 := hb13.trans (hb4.mono hb13.size)
  have HA4 := Lib.hid (HA3.out.below hb4)
  have HB4 := Lib.hid (HB3.out.below hb4)
  have HW4 := Lib.hid (HATW.out.below hb4)
  clear hb4
  have HRL := Lib.hid rootsL_len
  have HZL := Lib.hid z64_len
  go_wp2_with (first
    | (with_reducible refine wpList_alloc64m rfl rfl ?_; intro w5 R hR hatR hb5; have HA5 := Lib.hid (HA4.out.below hb5))
    | (with_reducible refine wpList_store_arrn (T := 46) (n := 64) info_64 rfl (.tmp 6) (.tmp 18) rfl rfl rootsL rfl HZL.out HRL.out hatR.out ?_; intro w6 hatR6 hk6; have HA6 := Lib.hid (HA5.out.kept hk6 (by have := hR.out; have := HA4.out.lt; omega)))
    | (with_reducible refine wpList_load_arr (T := 29) under_8 info_8 rfl (.tmp 2) rfl rfl HL8.out HA6.out ?_)
    | (with_reducible refine wpList_alloc8m rfl rfl ?_; intro w7 T hT hatT hb7)
    | (with_reducible refine wpList_store_arrn (T := 29) (n := 8) info_8 rfl (.tmp 7) (.tmp 19) rfl rfl s rfl HZ8.out HL8.out hatT.out ?_; intro w8 hatT8 hk8))
  try simp only [Act.put, List.setIfInBounds_toArray, List.set_cons_zero, List.set_cons_succ]
  have hRs := hR.out
  have hTs := hT.out
  have hR6 : R < w6.heap.size := hatR6.out.lt
  have hb46 : Below w4.heap.size w4 w6 := hb5.trans (hk6.below hb5.size (fun i hi => by omega))
  have hb48 : Below w4.heap.size w4 w8 := (hb46.trans (hb7.mono hb46.size)).trans (hk8.below (Nat.le_trans hb46.size hb7.size) (fun i hi => by have := hb46.size; omega))
  have HA8 := Lib.hid (HA4.out.below hb48)
  have HB8 := Lib.hid (HB4.out.below hb48)
  have HW8 := Lib.hid (HW4.out.below hb48)
  have HR8 : Hid (ArrAt 46 w8 R rootsL) := (hatR6.out.below hb7).kept hk8 (by omega)
  have HT8 := hatT8
  have HBw8 : Hid (Below w.heap.size w w8) := hb14.trans (hb48.mono hb14.size)
  have hWR : W < R := by have := HW4.out.lt; omega
  have hRT : R < T := by omega
  have hwT : w.heap.size ≤ T := by omega
  have HWL : Hid ((wordsN b).length = 64) := wordsTo_len b 64
  clear hb46 hb48 hRs hTs hR6 hk8 hatT8 hatT hb7 hT hk6 hatR6 hb5 hatR hR HA6 HA5 HA4 HB4 HW4 hb14 HA3 HB3 hb13 HATW HA2 hb12 HB1 hatB hB hatA hA
  go_loopw [8, 9, 10, 11, 12, 13, 14] (fun i _ _ _ _ _ _ wr => ∃ k : Nat, k ≤ 64 ∧ i = .int .i64 (k : Int) ∧ ArrAt 29 wr T (stepsTo s (wordsN b) k) ∧ Kept (· = T) w8 wr) (fun i _ _ _ _ _ _ _ => 64 - (intOf i).toNat)
  case atStart => exact ⟨0, Nat.zero_le _, rfl, HT8.out, Kept.refl _ _⟩
  case round =>
    clear HT8
    obtain ⟨k, hk, rfl, hat, hkp⟩ := hrel
    have HKP := Lib.hid hkp
    by_cases hlt : k < 64
    · have HC8 := stepsTo_8 H8.out (wordsN b) k
      have HNX : Hid (stepsTo s (wordsN b) (k + 1) = stepN (stepsTo s (wordsN b) k) (rootsL.getD k 0) ((wordsN b).getD k 0)) := Lib.hid rfl
      have LR : Hid (∀ w', Below wr.heap.size wr w' → w'.cell? ⟨R, k, none⟩ = some (.int .u32 ((rootsL.getD k 0 : Nat) : Int))) := fun w' h =>
        ((HR8.out.kept HKP.out (by omega)).below h).cell (by rw [HRL.out]; exact hlt)
      have LW : Hid (∀ w', Below wr.heap.size wr w' → w'.cell? ⟨W, k, none⟩ = some (.int .u32 (((wordsN b).getD k 0 : Nat) : Int))) := fun w' h =>
        ((HW8.out.kept HKP.out (by omega)).below h).cell (by rw [HWL.out]; exact hlt)
      have hki : (k : Int) < 64 := by omega
      generalize rootsL.getD k 0 = rk at *
      generalize (wordsN b).getD k 0 = wk at *
      generalize stepsTo s (wordsN b) k = cur at *
      obtain ⟨a0, b0, c, d, e, f, g, h, rfl, ha, hb, hc, hd, he, hf, hg, hh⟩ := HC8.parts
      have HAT := Lib.hid hat
      clear hat HC8 hkp
      have ld : ∀ j x, j < 8 → ([a0, b0, c, d, e, f, g, h].getD j 0 = x) → ∀ w', Below wr.heap.size wr w' → w'.cell? ⟨T, j, none⟩ = some (.int .u32 (x : Int)) := fun j x hj hx w' h => by
        rw [← hx]; exact (HAT.out.below h).cell hj
      have L0 := Lib.hid (ld 0 a0 (by omega) rfl)
      have L1 := Lib.hid (ld 1 b0 (by omega) rfl)
      have L2 := Lib.hid (ld 2 c (by omega) rfl)
      have L3 := Lib.hid (ld 3 d (by omega) rfl)
      have L4 := Lib.hid (ld 4 e (by omega) rfl)
      have L5 := Lib.hid (ld 5 f (by omega) rfl)
      have L6 := Lib.hid (ld 6 g (by omega) rfl)
      have L7 := Lib.hid (ld 7 h (by omega) rfl)
      clear ld
      have r1 := rotN_lt he (n := 6) (by omega)
      have r2 := rotN_lt he (n := 11) (by omega)
      have r3 := rotN_lt he (n := 25) (by omega)
      have r4 := rotN_lt ha (n := 2) (by omega)
      have r5 := rotN_lt ha (n := 13) (by omega)
      have r6 := rotN_lt ha (n := 22) (by omega)
      have T1 := Lib.hid (refTurn_any e 6 · he (by omega))
      have T2 := Lib.hid (refTurn_any e 11 · he (by omega))
      have T3 := Lib.hid (refTurn_any e 25 · he (by omega))
      have T4 := Lib.hid (refTurn_any a0 2 · ha (by omega))
      have T5 := Lib.hid (refTurn_any a0 13 · ha (by omega))
      have T6 := Lib.hid (refTurn_any a0 22 · ha (by omega))
      have X1 := Lib.hid (u32_xor_nat (rotN e 6) (rotN e 11) r1 r2)
      have X2 : Hid (bits BinOp.xor IntKind.u32 ((rotN e 6 ^^^ rotN e 11 : Nat) : Int) ((rotN e 25 : Nat) : Int) = ((bigS e : Nat) : Int)) := u32_xor_nat _ _ (xor_lt32 r1 r2) r3
      have X3 := Lib.hid (u32_xor_nat (rotN a0 2) (rotN a0 13) r4 r5)
      have X4 : Hid (bits BinOp.xor IntKind.u32 ((rotN a0 2 ^^^ rotN a0 13 : Nat) : Int) ((rotN a0 22 : Nat) : Int) = ((smlS a0 : Nat) : Int)) := u32_xor_nat _ _ (xor_lt32 r4 r5) r6
      have E1 := Lib.hid (u32_and_nat e f he hf)
      obtain ⟨N1, hN1⟩ : ∃ x, x = 4294967295 - e := ⟨_, rfl⟩
      have hN1l : N1 < 4294967296 := by omega
      have hNI : (4294967295 : Int) - (e : Int) = (N1 : Int) := by omega
      have E3 := Lib.hid (u32_and_nat N1 g hN1l hg)
      have E4 : Hid (bits BinOp.or IntKind.u32 ((e &&& f : Nat) : Int) ((N1 &&& g : Nat) : Int) = ((chN e f g : Nat) : Int)) := by
        show _ = _
        rw [u32_or_nat _ _ (and_lt32 _ he) (and_lt32 _ hN1l), hN1, ch_or e f g he]
      have M1 := Lib.hid (u32_and_nat a0 b0 ha hb)
      have M2 := Lib.hid (u32_and_nat a0 c ha hc)
      have M3 := Lib.hid (u32_and_nat b0 c hb hc)
      have M4 := Lib.hid (u32_or_nat (a0 &&& b0) (a0 &&& c) (and_lt32 _ ha) (and_lt32 _ ha))
      have M5 : Hid (bits BinOp.or IntKind.u32 (((a0 &&& b0) ||| (a0 &&& c) : Nat) : Int) ((b0 &&& c : Nat) : Int) = ((majN a0 b0 c : Nat) : Int)) := by
        show _ = _
        rw [u32_or_nat _ _ (Nat.or_lt_two_pow (n := 32) (and_lt32 _ ha) (and_lt32 _ ha)) (and_lt32 _ hb), maj_or]
      obtain ⟨x1, hx1⟩ : ∃ x, x = (h + bigS e) % 4294967296 := ⟨_, rfl⟩
      obtain ⟨x2, hx2⟩ : ∃ x, x = (x1 + chN e f g) % 4294967296 := ⟨_, rfl⟩
      obtain ⟨x3, hx3⟩ : ∃ x, x = (x2 + rk) % 4294967296 := ⟨_, rfl⟩
      obtain ⟨XX, hXX⟩ : ∃ x, x = (x3 + wk) % 4294967296 := ⟨_, rfl⟩
      obtain ⟨YY, hYY⟩ : ∃ x, x = (smlS a0 + majN a0 b0 c) % 4294967296 := ⟨_, rfl⟩
      obtain ⟨XY, hXY⟩ : ∃ x, x = (XX + YY) % 4294967296 := ⟨_, rfl⟩
      obtain ⟨DX, hDX⟩ : ∃ x, x = (d + XX) % 4294967296 := ⟨_, rfl⟩
      have A1 : Hid (IntKind.u32.wrap ((h : Int) + ((bigS e : Nat) : Int)) = (x1 : Int)) := by show _ = _; rw [add32, hx1]
      have A2 : Hid (IntKind.u32.wrap ((x1 : Int) + ((chN e f g : Nat) : Int)) = (x2 : Int)) := by show _ = _; rw [add32, hx2]
      have A3 : Hid (IntKind.u32.wrap ((x2 : Int) + (rk : Int)) = (x3 : Int)) := by show _ = _; rw [add32, hx3]
      have A4 : Hid (IntKind.u32.wrap ((x3 : Int) + (wk : Int)) = (XX : Int)) := by show _ = _; rw [add32, hXX]
      have b5 : Hid ((((smlS a0 : Nat) : Int) + ((majN a0 b0 c : Nat) : Int)) % 4294967296 = (YY : Int)) := by show _ = _; rw [hYY]; simp
      have b6 : Hid (((XX : Int) + (YY : Int)) % 4294967296 = (XY : Int)) := by show _ = _; rw [hXY]; simp
      have b8 : Hid (((XX : Int) + (((smlS a0 : Nat) : Int) + ((majN a0 b0 c : Nat) : Int)) % 4294967296) % 4294967296 = (XY : Int)) := by show _ = _; rw [b5.out, b6.out]
      have b7 : Hid (((d : Int) + (XX : Int)) % 4294967296 = (DX : Int)) := by show _ = _; rw [hDX]; simp
      have hXXe : XX = (h + bigS e + chN e f g + rk + wk) % 4294967296 := by omega
      have HRES : Hid (stepN [a0, b0, c, d, e, f, g, h] rk wk = [XY, a0, b0, c, DX, e, f, g]) := by
        show _ = _
        rw [hXY, hDX, hYY, hXXe]; rfl
      clear hx1 hx2 hx3 hXY hDX hXXe hN1 hN1l
      clear hXX hYY r1 r2 r3 r4 r5 r6
      go_wp2_with fail
      refine hStart (fun w' => Below wr.heap.size wr w') (by kernel_rfl) ?_
      have hHeld := (Below.refl wr.heap.size wr).drew
      refine hTake 0 (v := ?_) rfl (by kernel_rfl) (by kernel_rfl) (by kernel_rfl) (fun _ _ _ h => h) (by rfl) ?_ hHeld ?_
      rotate_left
      · intro w hSw; (try dsimp only at hSw); go_simp; (try with_reducible rfl)
      try simp only [Act.put, List.setIfInBounds_toArray, List.set_cons_zero, List.set_cons_succ]
      refine hTake 3 (v := ?_) rfl (by kernel_rfl) (by kernel_rfl) (by kernel_rfl) (fun _ _ _ h => h) (by rfl) ?_ hHeld ?_
      rotate_left
      · intro w hSw; (try dsimp only at hSw); go_simp; (try with_reducible rfl)
      try simp only [Act.put, List.setIfInBounds_toArray, List.set_cons_zero, List.set_cons_succ]
      refine hTake 7 (v := ?_) rfl (by kernel_rfl) (by kernel_rfl) (by kernel_rfl) (fun _ _ _ h => h) (by rfl) ?_ hHeld ?_
      rotate_left
      · intro w hSw; (try dsimp only at hSw); go_simp; (try with_reducible rfl)
      try simp only [Act.put, List.setIfInBounds_toArray, List.set_cons_zero, List.set_cons_succ]
      refine hTake 1 (v := (.int .u32 (e : Int))) rfl (by kernel_rfl) (by kernel_rfl) (by kernel_rfl) (fun _ _ _ h => h) (by rfl) ?_ hHeld ?_
      · intro w hSw; have h1 := L4.out w hSw; go_simp; (try with_reducible rfl)
      try simp only [Act.put, List.setIfInBounds_toArray, List.set_cons_zero, List.set_cons_succ]
      refine hTake 4 (v := (.int .u32 (e : Int))) rfl (by kernel_rfl) (by kernel_rfl) (by kernel_rfl) (fun _ _ _ h => h) (by rfl) ?_ hHeld ?_
      · intro w hSw; have h1 := L4.out w hSw; go_simp; (try with_reducible rfl)
      try simp only [Act.put, List.setIfInBounds_toArray, List.set_cons_zero, List.set_cons_succ]
      refine hTake 8 (v := (.int .u32 (e : Int))) rfl (by kernel_rfl) (by kernel_rfl) (by kernel_rfl) (fun _ _ _ h => h) (by rfl) ?_ hHeld ?_
      · intro w hSw; have h1 := L4.out w hSw; go_simp; (try with_reducible rfl)
      try simp only [Act.put, List.setIfInBounds_toArray, List.set_cons_zero, List.set_cons_succ]
      refine hStep 2 rfl (by kernel_rfl) (by rfl) (fun K hK => ?_)
      have HK := Lib.hid hK
      clear hK
      go_simp
      refine (T1.out _).mono ?_
      rintro e1 w3 ⟨rfl, rfl⟩
      have hHeldN := hHeld
      refine HK.out _ _ hHeldN ?_
      clear HK K hHeld
      have hHeld := hHeldN
      clear hHeldN
      try simp only [Act.put, List.setIfInBounds_toArray, List.set_cons_zero, List.set_cons_succ]
      refine hStep 5 rfl (by kernel_rfl) (by rfl) (fun K hK => ?_)
      have HK := Lib.hid hK
      clear hK
      go_simp
      refine (T2.out _).mono ?_
      rintro e1 w3 ⟨rfl, rfl⟩
      have hHeldN := hHeld
      refine HK.out _ _ hHeldN ?_
      clear HK K hHeld
      have hHeld := hHeldN
      clear hHeldN
      try simp only [Act.put, List.setIfInBounds_toArray, List.set_cons_zero, List.set_cons_succ]
      refine hTake 6 (v := (.int .u32 ((rotN e 6 ^^^ rotN e 11 : Nat) : Int))) rfl (by kernel_rfl) (by kernel_rfl) (by kernel_rfl) (fun _ _ _ h => h) (by rfl) ?_ hHeld ?_
      · intro w hSw; have h1 := X1.out; go_simp; (try with_reducible rfl)
      try simp only [Act.put, List.setIfInBounds_toArray, List.set_cons_zero, List.set_cons_succ]
      refine hStep 9 rfl (by kernel_rfl) (by rfl) (fun K hK => ?_)
      have HK := Lib.hid hK
      clear hK
      go_simp
      refine (T3.out _).mono ?_
      rintro e1 w3 ⟨rfl, rfl⟩
      have hHeldN := hHeld
      refine HK.out _ _ hHeldN ?_
      clear HK K hHeld
      have hHeld := hHeldN
      clear hHeldN
      try simp only [Act.put, List.setIfInBounds_toArray, List.set_cons_zero, List.set_cons_succ]
      refine hTake 10 (v := (.int .u32 ((bigS e : Nat) : Int))) rfl (by kernel_rfl) (by kernel_rfl) (by kernel_rfl) (fun _ _ _ h => h) (by rfl) ?_ hHeld ?_
      · intro w hSw; have h1 := X2.out; go_simp; (try with_reducible rfl)
      try simp only [Act.put, List.setIfInBounds_toArray, List.set_cons_zero, List.set_cons_succ]
      refine hTake 11 (v := ?_) rfl (by kernel_rfl) (by kernel_rfl) (by kernel_rfl) (fun _ _ _ h => h) (by rfl) ?_ hHeld ?_
      rotate_left
      · intro w hSw; (try dsimp only at hSw); go_simp; (try with_reducible rfl)
      try simp only [Act.put, List.setIfInBounds_toArray, List.set_cons_zero, List.set_cons_succ]
      refine hDone (by kernel_rfl) ?_
      show NoPanic _ _ _ _
      refine NoPanic.normal ?_
      have hBx := hHeld
      have l4 := L4.out wr.drew hBx
      have l5 := L5.out wr.drew hBx
      have l6 := L6.out wr.drew hBx
      have e1 := E1.out
      have e3 := E3.out
      have e4 := E4.out
      go_wp2_with fail
      clear l4 l5 l6 e1 e3 e4
      refine hStart (fun w' => Below wr.heap.size wr w') (by kernel_rfl) ?_
      have hHeld := hBx.drew
      refine hTake 0 (v := ?_) rfl (by kernel_rfl) (by kernel_rfl) (by kernel_rfl) (fun _ _ _ h => h) (by rfl) ?_ hHeld ?_
      rotate_left
      · intro w hSw; (try dsimp only at hSw); go_simp; (try with_reducible rfl)
      try simp only [Act.put, List.setIfInBounds_toArray, List.set_cons_zero, List.set_cons_succ]
      refine hTake 2 (v := ?_) rfl (by kernel_rfl) (by kernel_rfl) (by kernel_rfl) (fun _ _ _ h => h) (by rfl) ?_ hHeld ?_
      rotate_left
      · intro w hSw; (try dsimp only at hSw); go_simp; (try with_reducible rfl)
      try simp only [Act.put, List.setIfInBounds_toArray, List.set_cons_zero, List.set_cons_succ]
      refine hTake 4 (v := ?_) rfl (by kernel_rfl) (by kernel_rfl) (by kernel_rfl) (fun _ _ _ h => h) (by rfl) ?_ hHeld ?_
      rotate_left
      · intro w hSw; (try dsimp only at hSw); go_simp; (try with_reducible rfl)
      try simp only [Act.put, List.setIfInBounds_toArray, List.set_cons_zero, List.set_cons_succ]
      refine hTake 6 (v := ?_) rfl (by kernel_rfl) (by kernel_rfl) (by kernel_rfl) (fun _ _ _ h => h) (by rfl) ?_ hHeld ?_
      rotate_left
      · intro w hSw; (try dsimp only at hSw); go_simp; (try with_reducible rfl)
      try simp only [Act.put, List.setIfInBounds_toArray, List.set_cons_zero, List.set_cons_succ]
      refine hTake 10 (v := ?_) rfl (by kernel_rfl) (by kernel_rfl) (by kernel_rfl) (fun _ _ _ h => h) (by rfl) ?_ hHeld ?_
      rotate_left
      · intro w hSw; (try dsimp only at hSw); go_simp; (try with_reducible rfl)
      try simp only [Act.put, List.setIfInBounds_toArray, List.set_cons_zero, List.set_cons_succ]
      refine hTake 11 (v := ?_) rfl (by kernel_rfl) (by kernel_rfl) (by kernel_rfl) (fun _ _ _ h => h) (by rfl) ?_ hHeld ?_
      rotate_left
      · intro w hSw; (try dsimp only at hSw); go_simp; (try with_reducible rfl)
      try simp only [Act.put, List.setIfInBounds_toArray, List.set_cons_zero, List.set_cons_succ]
      refine hTake 7 (v := ?_) rfl (by kernel_rfl) (by kernel_rfl) (by kernel_rfl) (fun _ _ _ h => h) (by rfl) ?_ hHeld ?_
      rotate_left
      · intro w hSw; (try dsimp only at hSw); go_simp; (try with_reducible rfl)
      try simp only [Act.put, List.setIfInBounds_toArray, List.set_cons_zero, List.set_cons_succ]
      refine hTake 12 (v := ?_) rfl (by kernel_rfl) (by kernel_rfl) (by kernel_rfl) (fun _ _ _ h => h) (by rfl) ?_ hHeld ?_
      rotate_left
      · intro w hSw; (try dsimp only at hSw); go_simp; (try with_reducible rfl)
      try simp only [Act.put, List.setIfInBounds_toArray, List.set_cons_zero, List.set_cons_succ]
      refine hTake 1 (v := (.int .u32 (h : Int))) rfl (by kernel_rfl) (by kernel_rfl) (by kernel_rfl) (fun _ _ _ h => h) (by rfl) ?_ hHeld ?_
      · intro w hSw; have h1 := L7.out w hSw; go_simp; (try with_reducible rfl)
      try simp only [Act.put, List.setIfInBounds_toArray, List.set_cons_zero, List.set_cons_succ]
      refine hTake 8 (v := (.int .u32 (rk : Int))) rfl (by kernel_rfl) (by kernel_rfl) (by kernel_rfl) (fun _ _ _ h => h) (by rfl) ?_ hHeld ?_
      · intro w hSw; have h1 := LR.out w hSw; go_simp; (try with_reducible rfl)
      try simp only [Act.put, List.setIfInBounds_toArray, List.set_cons_zero, List.set_cons_succ]
      refine hTake 13 (v := (.int .u32 (wk : Int))) rfl (by kernel_rfl) (by kernel_rfl) (by kernel_rfl) (fun _ _ _ h => h) (by rfl) ?_ hHeld ?_
      · intro w hSw; have h1 := LW.out w hSw; go_simp; (try with_reducible rfl)
      try simp only [Act.put, List.setIfInBounds_toArray, List.set_cons_zero, List.set_cons_succ]
      refine hTake 3 (v := (.int .u32 (x1 : Int))) rfl (by kernel_rfl) (by kernel_rfl) (by kernel_rfl) (fun _ _ _ h => h) (by rfl) ?_ hHeld ?_
      · intro w hSw; have h1 := A1.out; go_simp; (try with_reducible rfl)
      try simp only [Act.put, List.setIfInBounds_toArray, List.set_cons_zero, List.set_cons_succ]
      refine hTake 5 (v := (.int .u32 (x2 : Int))) rfl (by kernel_rfl) (by kernel_rfl) (by kernel_rfl) (fun _ _ _ h => h) (by rfl) ?_ hHeld ?_
      · intro w hSw; have h1 := A2.out; go_simp; (try with_reducible rfl)
      try simp only [Act.put, List.setIfInBounds_toArray, List.set_cons_zero, List.set_cons_succ]
      refine hTake 9 (v := (.int .u32 (x3 : Int))) rfl (by kernel_rfl) (by kernel_rfl) (by kernel_rfl) (fun _ _ _ h => h) (by rfl) ?_ hHeld ?_
      · intro w hSw; have h1 := A3.out; go_simp; (try with_reducible rfl)
      try simp only [Act.put, List.setIfInBounds_toArray, List.set_cons_zero, List.set_cons_succ]
      refine hTake 14 (v := (.int .u32 (XX : Int))) rfl (by kernel_rfl) (by kernel_rfl) (by kernel_rfl) (fun _ _ _ h => h) (by rfl) ?_ hHeld ?_
      · intro w hSw; have h1 := A4.out; go_simp; (try with_reducible rfl)
      try simp only [Act.put, List.setIfInBounds_toArray, List.set_cons_zero, List.set_cons_succ]
      refine hTake 15 (v := ?_) rfl (by kernel_rfl) (by kernel_rfl) (by kernel_rfl) (fun _ _ _ h => h) (by rfl) ?_ hHeld ?_
      rotate_left
      · intro w hSw; (try dsimp only at hSw); go_simp; (try with_reducible rfl)
      try simp only [Act.put, List.setIfInBounds_toArray, List.set_cons_zero, List.set_cons_succ]
      refine hDone (by kernel_rfl) ?_
      show NoPanic _ _ _ _
      refine NoPanic.normal ?_
      have hBx2 := hHeld
      go_wp2_with fail
      refine hStart (fun w' => Below wr.heap.size wr w') (by kernel_rfl) ?_
      have hHeld := hBx2.drew
      refine hTake 0 (v := ?_) rfl (by kernel_rfl) (by kernel_rfl) (by kernel_rfl) (fun _ _ _ h => h) (by rfl) ?_ hHeld ?_
      rotate_left
      · intro w hSw; (try dsimp only at hSw); go_simp; (try with_reducible rfl)
      try simp only [Act.put, List.setIfInBounds_toArray, List.set_cons_zero, List.set_cons_succ]
      refine hTake 3 (v := ?_) rfl (by kernel_rfl) (by kernel_rfl) (by kernel_rfl) (fun _ _ _ h => h) (by rfl) ?_ hHeld ?_
      rotate_left
      · intro w hSw; (try dsimp only at hSw); go_simp; (try with_reducible rfl)
      try simp only [Act.put, List.setIfInBounds_toArray, List.set_cons_zero, List.set_cons_succ]
      refine hTake 7 (v := ?_) rfl (by kernel_rfl) (by kernel_rfl) (by kernel_rfl) (fun _ _ _ h => h) (by rfl) ?_ hHeld ?_
      rotate_left
      · intro w hSw; (try dsimp only at hSw); go_simp; (try with_reducible rfl)
      try simp only [Act.put, List.setIfInBounds_toArray, List.set_cons_zero, List.set_cons_succ]
      refine hTake 1 (v := (.int .u32 (a0 : Int))) rfl (by kernel_rfl) (by kernel_rfl) (by kernel_rfl) (fun _ _ _ h => h) (by rfl) ?_ hHeld ?_
      · intro w hSw; have h1 := L0.out w hSw; go_simp; (try with_reducible rfl)
      try simp only [Act.put, List.setIfInBounds_toArray, List.set_cons_zero, List.set_cons_succ]
      refine hTake 4 (v := (.int .u32 (a0 : Int))) rfl (by kernel_rfl) (by kernel_rfl) (by kernel_rfl) (fun _ _ _ h => h) (by rfl) ?_ hHeld ?_
      · intro w hSw; have h1 := L0.out w hSw; go_simp; (try with_reducible rfl)
      try simp only [Act.put, List.setIfInBounds_toArray, List.set_cons_zero, List.set_cons_succ]
      refine hTake 8 (v := (.int .u32 (a0 : Int))) rfl (by kernel_rfl) (by kernel_rfl) (by kernel_rfl) (fun _ _ _ h => h) (by rfl) ?_ hHeld ?_
      · intro w hSw; have h1 := L0.out w hSw; go_simp; (try with_reducible rfl)
      try simp only [Act.put, List.setIfInBounds_toArray, List.set_cons_zero, List.set_cons_succ]
      refine hStep 2 rfl (by kernel_rfl) (by rfl) (fun K hK => ?_)
      have HK := Lib.hid hK
      clear hK
      go_simp
      refine (T4.out _).mono ?_
      rintro e1 w3 ⟨rfl, rfl⟩
      have hHeldN := hHeld
      refine HK.out _ _ hHeldN ?_
      clear HK K hHeld
      have hHeld := hHeldN
      clear hHeldN
      try simp only [Act.put, List.setIfInBounds_toArray, List.set_cons_zero, List.set_cons_succ]
      refine hStep 5 rfl (by kernel_rfl) (by rfl) (fun K hK => ?_)
      have HK := Lib.hid hK
      clear hK
      go_simp
      refine (T5.out _).mono ?_
      rintro e1 w3 ⟨rfl, rfl⟩
      have hHeldN := hHeld
      refine HK.out _ _ hHeldN ?_
      clear HK K hHeld
      have hHeld := hHeldN
      clear hHeldN
      try simp only [Act.put, List.setIfInBounds_toArray, List.set_cons_zero, List.set_cons_succ]
      refine hTake 6 (v := (.int .u32 ((rotN a0 2 ^^^ rotN a0 13 : Nat) : Int))) rfl (by kernel_rfl) (by kernel_rfl) (by kernel_rfl) (fun _ _ _ h => h) (by rfl) ?_ hHeld ?_
      · intro w hSw; have h1 := X3.out; go_simp; (try with_reducible rfl)
      try simp only [Act.put, List.setIfInBounds_toArray, List.set_cons_zero, List.set_cons_succ]
      refine hStep 9 rfl (by kernel_rfl) (by rfl) (fun K hK => ?_)
      have HK := Lib.hid hK
      clear hK
      go_simp
      refine (T6.out _).mono ?_
      rintro e1 w3 ⟨rfl, rfl⟩
      have hHeldN := hHeld
      refine HK.out _ _ hHeldN ?_
      clear HK K hHeld
      have hHeld := hHeldN
      clear hHeldN
      try simp only [Act.put, List.setIfInBounds_toArray, List.set_cons_zero, List.set_cons_succ]
      refine hTake 10 (v := (.int .u32 ((smlS a0 : Nat) : Int))) rfl (by kernel_rfl) (by kernel_rfl) (by kernel_rfl) (fun _ _ _ h => h) (by rfl) ?_ hHeld ?_
      · intro w hSw; have h1 := X4.out; go_simp; (try with_reducible rfl)
      try simp only [Act.put, List.setIfInBounds_toArray, List.set_cons_zero, List.set_cons_succ]
      refine hTake 11 (v := ?_) rfl (by kernel_rfl) (by kernel_rfl) (by kernel_rfl) (fun _ _ _ h => h) (by rfl) ?_ hHeld ?_
      rotate_left
      · intro w hSw; (try dsimp only at hSw); go_simp; (try with_reducible rfl)
      try simp only [Act.put, List.setIfInBounds_toArray, List.set_cons_zero, List.set_cons_succ]
      refine hDone (by kernel_rfl) ?_
      show NoPanic _ _ _ _
      refine NoPanic.normal ?_
      have hB5 : Below wr.heap.size wr wr.drew.drew.drew := hHeld
      obtain ⟨w5, hw5⟩ : ∃ w5, w5 = wr.drew.drew.drew := ⟨_, rfl⟩
      rw [← hw5] at hB5 ⊢
      clear hw5 hHeld hBx2 hBx
      have l0 := L0.out w5 hB5
      have l1 := L1.out w5 hB5
      have l2 := L2.out w5 hB5
      have l3 := L3.out w5 hB5
      have l4 := L4.out w5 hB5
      have l5 := L5.out w5 hB5
      have l6 := L6.out w5 hB5
      have m1 := M1.out
      have m2 := M2.out
      have m3 := M3.out
      have m4 := M4.out
      have m5 := M5.out
      have HAT5 := Lib.hid (HAT.out.below hB5)
      have S7 : Hid (7 < [a0, b0, c, d, e, f, g, h].length ∧ [a0, b0, c, d, e, f, g, h].set 7 g = [a0, b0, c, d, e, f, g, g]) := ⟨by show _ < 8; omega, rfl⟩
      have S6 : Hid (6 < [a0, b0, c, d, e, f, g, g].length ∧ [a0, b0, c, d, e, f, g, g].set 6 f = [a0, b0, c, d, e, f, f, g]) := ⟨by show _ < 8; omega, rfl⟩
      have S5 : Hid (5 < [a0, b0, c, d, e, f, f, g].length ∧ [a0, b0, c, d, e, f, f, g].set 5 e = [a0, b0, c, d, e, e, f, g]) := ⟨by show _ < 8; omega, rfl⟩
      have S4 : Hid (4 < [a0, b0, c, d, e, e, f, g].length ∧ [a0, b0, c, d, e, e, f, g].set 4 DX = [a0, b0, c, d, DX, e, f, g]) := ⟨by show _ < 8; omega, rfl⟩
      have S3 : Hid (3 < [a0, b0, c, d, DX, e, f, g].length ∧ [a0, b0, c, d, DX, e, f, g].set 3 c = [a0, b0, c, c, DX, e, f, g]) := ⟨by show _ < 8; omega, rfl⟩
      have S2 : Hid (2 < [a0, b0, c, c, DX, e, f, g].length ∧ [a0, b0, c, c, DX, e, f, g].set 2 b0 = [a0, b0, b0, c, DX, e, f, g]) := ⟨by show _ < 8; omega, rfl⟩
      have S1 : Hid (1 < [a0, b0, b0, c, DX, e, f, g].length ∧ [a0, b0, b0, c, DX, e, f, g].set 1 a0 = [a0, a0, b0, c, DX, e, f, g]) := ⟨by show _ < 8; omega, rfl⟩
      have S0 : Hid (0 < [a0, a0, b0, c, DX, e, f, g].length ∧ [a0, a0, b0, c, DX, e, f, g].set 0 XY = [XY, a0, b0, c, DX, e, f, g]) := ⟨by show _ < 8; omega, rfl⟩
      go_wp2_with (first
        | ((with_reducible refine wpList_storeA1 (T := 29) (l := [a0, b0, c, d, e, f, g, h]) rfl (.tmp 95) (.tmp 94) rfl 7 rfl g rfl HAT5.out [a0, b0, c, d, e, f, g, g] S7.out ?_); intro wa htwa hkwa; have lwa : wa.cell? ⟨T, 5, none⟩ = some (.int .u32 (f : Int)) := htwa.out.cell (j := 5) (by show _ < 8; omega))
        | ((with_reducible refine wpList_storeA1 (T := 29) (l := [a0, b0, c, d, e, f, g, g]) rfl (.tmp 98) (.tmp 97) rfl 6 rfl f rfl htwa.out [a0, b0, c, d, e, f, f, g] S6.out ?_); intro wb htwb hkwb; have lwb : wb.cell? ⟨T, 4, none⟩ = some (.int .u32 (e : Int)) := htwb.out.cell (j := 4) (by show _ < 8; omega))
        | ((with_reducible refine wpList_storeA1 (T := 29) (l := [a0, b0, c, d, e, f, f, g]) rfl (.tmp 101) (.tmp 100) rfl 5 rfl e rfl htwb.out [a0, b0, c, d, e, e, f, g] S5.out ?_); intro wc htwc hkwc; have lwc : wc.cell? ⟨T, 3, none⟩ = some (.int .u32 (d : Int)) := htwc.out.cell (j := 3) (by show _ < 8; omega))
        | ((with_reducible refine wpList_storeA1z (T := 29) (l := [a0, b0, c, d, e, e, f, g]) rfl (.tmp 106) (.tmp 105) rfl 4 rfl DX rfl b7.out htwc.out [a0, b0, c, d, DX, e, f, g] S4.out ?_); intro wd htwd hkwd; have lwd : wd.cell? ⟨T, 2, none⟩ = some (.int .u32 (c : Int)) := htwd.out.cell (j := 2) (by show _ < 8; omega))
        | ((with_reducible refine wpList_storeA1 (T := 29) (l := [a0, b0, c, d, DX, e, f, g]) rfl (.tmp 109) (.tmp 108) rfl 3 rfl c rfl htwd.out [a0, b0, c, c, DX, e, f, g] S3.out ?_); intro we htwe hkwe; have lwe : we.cell? ⟨T, 1, none⟩ = some (.int .u32 (b0 : Int)) := htwe.out.cell (j := 1) (by show _ < 8; omega))
        | ((with_reducible refine wpList_storeA1 (T := 29) (l := [a0, b0, c, c, DX, e, f, g]) rfl (.tmp 112) (.tmp 111) rfl 2 rfl b0 rfl htwe.out [a0, b0, b0, c, DX, e, f, g] S2.out ?_); intro wf htwf hkwf; have lwf : wf.cell? ⟨T, 0, none⟩ = some (.int .u32 (a0 : Int)) := htwf.out.cell (j := 0) (by show _ < 8; omega))
        | ((with_reducible refine wpList_storeA1 (T := 29) (l := [a0, b0, b0, c, DX, e, f, g]) rfl (.tmp 115) (.tmp 114) rfl 1 rfl a0 rfl htwf.out [a0, a0, b0, c, DX, e, f, g] S1.out ?_); intro wg htwg hkwg)
        | ((with_reducible refine wpList_storeA1z (T := 29) (l := [a0, a0, b0, c, DX, e, f, g]) rfl (.tmp 119) (.tmp 118) rfl 0 rfl XY rfl b8.out htwg.out [XY, a0, b0, c, DX, e, f, g] S0.out ?_); intro wh htwh hkwh))
      (try simp only [Act.put])
      have hKF : Kept (· = T) w8 wh := ((((((((HKP.out.trans (Kept.ofBelow hB5 (· = T)) (fun i hi => .inl hi)).trans hkwa.out (fun i hi => .inl hi)).trans hkwb.out (fun i hi => .inl hi)).trans hkwc.out (fun i hi => .inl hi)).trans hkwd.out (fun i hi => .inl hi)).trans hkwe.out (fun i hi => .inl hi)).trans hkwf.out (fun i hi => .inl hi)).trans hkwg.out (fun i hi => .inl hi)).trans hkwh.out (fun i hi => .inl hi)
      go_roundw
      case rel => exact ⟨k + 1, by omega, by go_num, by rw [HNX.out, HRES.out]; exact htwh.out, hKF⟩
      case measure => simp [intOf] <;> omega
    · have HK64 : Hid (k = 64) := by show _ = _; omega
      obtain ⟨t, ht⟩ : ∃ t, t = stepsTo s (wordsN b) k := ⟨_, rfl⟩
      have HT8 : Hid (Is8 t) := by show Is8 t; rw [ht]; exact stepsTo_8 H8.out _ _
      have HTL := Lib.hid HT8.out.1
      have HAt : Hid (ArrAt 29 wr T (mixN t s 0)) := by show ArrAt _ _ _ _; rw [mixN_0, ht]; exact hat
      have HBL : Hid (blockN s b = mixN t s 8) := by show _ = _; rw [mixN_8 HTL.out, ht, HK64.out]; rfl
      have hge : (64 : Int) ≤ (k : Int) := by omega
      clear ht hat hkp
      clear hge hlt
      rw [show (Value.int IntKind.i64 (k : Int)) = Value.int IntKind.i64 64 by rw [HK64.out]; rfl]
      go_wp2_with fail
      go_loopw [15] (fun i w9 => ∃ k : Nat, k ≤ 8 ∧ i = .int .i64 (k : Int) ∧ ArrAt 29 w9 T (mixN t s k) ∧ Kept (· = T) w8 w9) (fun i _ => 8 - (intOf i).toNat)
      case atStart => exact ⟨0, Nat.zero_le _, rfl, HAt.out, HKP.out⟩
      case round =>
        obtain ⟨m, hm, rfl, hat, hkp9⟩ := hrel
        have HA9 := Lib.hid hat
        clear hat HAt HKP
        by_cases hlt : m < 8
        · have HSET := Lib.hid (mixN_set (s := s) HTL.out hlt)
          have HMA := Lib.hid (mixN_at (t := t) (s := s) hlt)
          have hck := HA9.out.cell (j := m) (by rw [mixN_len HTL.out hm]; exact hlt)
          have hfr := HA9.out.free m
          rw [HMA.out] at hck
          have LS : Hid (∀ w', Kept (· = T) wr w' → w'.cell? ⟨A, m, none⟩ = some (.int .u32 ((s.getD m 0 : Nat) : Int))) := fun w' h =>
            (HA8.out.kept (hkp9.trans h (fun i hi => .inl hi)) (by omega)).cell (by rw [HL8.out]; exact hlt)
          obtain ⟨v, hv⟩ : ∃ v, v = (t.getD m 0 + s.getD m 0) % 4294967296 := ⟨_, rfl⟩
          rw [← hv] at HSET
          have A1 : Hid (IntKind.u32.wrap (((t.getD m 0 : Nat) : Int) + ((s.getD m 0 : Nat) : Int)) = (v : Int)) := by show _ = _; rw [add32, hv]
          have hki : (m : Int) < 8 := by omega
          generalize t.getD m 0 = tk at *
          generalize s.getD m 0 = sk at *
          clear hv
          go_wp2_with fail
          refine hStart (fun w' => Kept (· = T) wr w') (by kernel_rfl) ?_
          have hHeld := Kept.drew (· = T) wr
          have hck' : wr.drew.cell? ⟨T, m, none⟩ = some (.int .u32 (tk : Int)) := hck
          refine hTake 0 (v := ?_) rfl (by kernel_rfl) (by kernel_rfl) (by kernel_rfl) (fun _ _ _ h => h) (by rfl) ?_ hHeld ?_
          rotate_left
          · intro w hSw; (try dsimp only at hSw); go_simp; (try with_reducible rfl)
          try simp only [Act.put, List.setIfInBounds_toArray, List.set_cons_zero, List.set_cons_succ]
          refine hTake 1 (v := ?_) rfl (by kernel_rfl) (by kernel_rfl) (by kernel_rfl) (fun _ _ _ h => h) (by rfl) ?_ hHeld ?_
          rotate_left
          · intro w hSw; (try dsimp only at hSw); go_simp; (try with_reducible rfl)
          try simp only [Act.put, List.setIfInBounds_toArray, List.set_cons_zero, List.set_cons_succ]
          refine hTake 4 (v := ?_) rfl (by kernel_rfl) (by kernel_rfl) (by kernel_rfl) (fun _ _ _ h => h) (by rfl) ?_ hHeld ?_
          rotate_left
          · intro w hSw; (try dsimp only at hSw); go_simp; (try with_reducible rfl)
          try simp only [Act.put, List.setIfInBounds_toArray, List.set_cons_zero, List.set_cons_succ]
          refine hTake 2 (v := ?_) rfl (by kernel_rfl) (by kernel_rfl) (by kernel_rfl) (fun _ _ _ h => h) (by rfl) ?_ hHeld ?_
          rotate_left
          · intro w hSw; (try dsimp only at hSw); go_simp; (try with_reducible rfl)
          try simp only [Act.put, List.setIfInBounds_toArray, List.set_cons_zero, List.set_cons_succ]
          refine hTake 5 (v := ?_) rfl (by kernel_rfl) (by kernel_rfl) (by kernel_rfl) (fun _ _ _ h => h) (by rfl) ?_ hHeld ?_
          rotate_left
          · intro w hSw; (try dsimp only at hSw); go_simp; (try with_reducible rfl)
          try simp only [Act.put, List.setIfInBounds_toArray, List.set_cons_zero, List.set_cons_succ]
          refine hTake 6 (v := (.int .u32 (sk : Int))) rfl (by kernel_rfl) (by kernel_rfl) (by kernel_rfl) (fun _ _ _ h => h) (by rfl) ?_ hHeld ?_
          · intro w hSw; have h1 := LS.out w hSw; go_simp; (try with_reducible rfl)
          try simp only [Act.put, List.setIfInBounds_toArray, List.set_cons_zero, List.set_cons_succ]
          refine hStep 3 rfl (by kernel_rfl) (by rfl) (fun K hK => ?_)
          have HK := Lib.hid hK
          clear hK
          go_simp
          have hHeldN := hHeld
          refine HK.out _ _ hHeldN ?_
          clear HK K hHeld
          have hHeld := hHeldN
          clear hHeldN
          try simp only [Act.put, List.setIfInBounds_toArray, List.set_cons_zero, List.set_cons_succ]
          refine hTake 7 (v := (.int .u32 (v : Int))) rfl (by kernel_rfl) (by kernel_rfl) (by kernel_rfl) (fun _ _ _ h => h) (by rfl) ?_ hHeld ?_
          · intro w hSw; have h1 := A1.out; go_simp; (try with_reducible rfl)
          try simp only [Act.put, List.setIfInBounds_toArray, List.set_cons_zero, List.set_cons_succ]
          refine hTake 8 (v := ?_) rfl (by kernel_rfl) (by kernel_rfl) (by kernel_rfl) (fun _ _ _ h => h) (by rfl) ?_ hHeld ?_
          rotate_left
          · intro w hSw; (try dsimp only at hSw); go_simp; (try with_reducible rfl)
          try simp only [Act.put, List.setIfInBounds_toArray, List.set_cons_zero, List.set_cons_succ]
          refine hStep 9 rfl (by kernel_rfl) (by rfl) (fun K hK => ?_)
          have HK := Lib.hid hK
          clear hK
          go_simp
          have hK8 : Kept (· = T) wr (wr.setCell ⟨T, m, none⟩ (.int .u32 (v : Int))).drew := (Kept.setCell (T := (· = T)) _ _ _ rfl).trans (Kept.drew (· = T) _) (fun i hi => .inl hi)
          have hHeldN := hK8
          refine HK.out _ _ hHeldN ?_
          clear HK K hHeld
          have hHeld := hHeldN
          clear hHeldN
          try simp only [Act.put]
          refine hDone (by kernel_rfl) ?_
          show NoPanic _ _ _ _
          refine NoPanic.normal ?_
          have HF : Hid (ArrAt 29 (wr.setCell ⟨T, m, none⟩ (.int .u32 (v : Int))).drew T (mixN t s (m + 1)) ∧ Kept (· = T) w8 (wr.setCell ⟨T, m, none⟩ (.int .u32 (v : Int))).drew) := ⟨by rw [← HSET.out]; exact HA9.out.set m v, hkp9.trans hHeld (fun i hi => .inl hi)⟩
          clear hHeld hK8 hck hck' hfr
          go_wp2
          go_roundw
          case rel => exact ⟨m + 1, by omega, by go_num, HF.out.1, HF.out.2⟩
          case measure => simp [intOf] <;> omega
        · obtain rfl : m = 8 := by omega
          have HB8' : Hid (ArrAt 29 wr T (blockN s b)) := by show ArrAt _ _ _ _; rw [HBL.out]; exact HA9.out
          have HB1 : Hid (ArrAt 29 wr B [0, 0, 0, 0, 0, 0, 0, 0]) := HB8.out.kept hkp9 (by omega)
          have HL8' := Lib.hid (blockN_8 s b).1
          have hbF : Below w.heap.size w wr := HBw8.out.trans (hkp9.below HBw8.out.size (fun i hi => by omega))
          have HBF := Lib.hid hbF
          clear hbF
          go_wp2_with (first
            | (with_reducible refine wpList_load_arr (T := 29) under_8 info_8 rfl (.tmp 7) rfl rfl HL8'.out HB8'.out ?_)
            | (with_reducible refine wpList_store_arr (T := 29) (n := 8) info_8 rfl (.tmp 4) (.tmp 133) rfl rfl (blockN s b) rfl rfl HL8'.out HB1.out ?_))
          refine bodyPost_ret (results_arr (T := 29) under_8 info_8 rfl _ rfl HL8'.out (HB1.out.row (blockN s b))) rfl ⟨rfl, ?_⟩
          exact below_setRow HBF.out (by omega) _
end Go.Proofs.Ytegeglnfpddgfaa
