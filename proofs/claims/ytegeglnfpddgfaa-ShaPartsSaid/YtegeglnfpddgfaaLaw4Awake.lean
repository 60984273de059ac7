/- The walk of repertorylaw04.awake: chapter 4's examples hold. -/
import Derived.Test.YtegeglnfpddgfaaShaRHash
import Derived.Test.YtegeglnfpddgfaaShaAwakeMath
import Derived.Lib.SlBytesConst
namespace Go.Proofs.Ytegeglnfpddgfaa
open Go.RowKit

theorem wpList_storeBn {T : TypeId} {w : World} {g : Nat} {l : List UInt8} {ops : Array Oper} {rest : List Oper} {o : Oper} {a : Act} {Q : Exit → Act → World → Prop} {n : Nat} (hi : (Try.prog.info? T).map (·.size) = some n) (hgd : o.guard = none) (x y : Operand) (ho : o.op = .store T x y)
    (hx : a.eval x = .pointer (some ⟨g, 0, none⟩)) (l' : List UInt8) (hy : a.eval y = .agg (arrB l')) (hl : l.length = n) (hl' : l'.length = n) (hat : ArrBAt T w g l) (h : ∀ w', Hid (ArrBAt T w' g l') → Hid (Kept (· = g) w w') → wpList Try.prog ops Q rest (a.put o.dst undef) w') : wpList Try.prog ops Q (o :: rest) a w :=
  wpList_storeB hi hgd x y ho hx l' hy hl hl' hat (h _ (hat.row l') (kept_setRow w g _ rfl))
theorem wpList_alloc32m {ops : Array Oper} {rest : List Oper} {o : Oper} {a : Act} {w : World} {Q : Exit → Act → World → Prop} (hg : o.guard = none) (ho : o.op = .alloc 24)
    (h : ∀ w' G, Hid (G = w.heap.size) → Hid (ArrBAt 24 w' G b32) → Hid (Below w.heap.size w w') → wpList Try.prog ops Q rest (a.put o.dst (.pointer (some ⟨G, 0, none⟩))) w') : wpList Try.prog ops Q (o :: rest) a w :=
  wpList_alloc32 hg ho (h _ _ rfl (ArrBAt.new _ _ _) ((Below.refl _ _).alloc (Nat.le_refl _) _))

set_option maxRecDepth 100000 in
set_option maxHeartbeats 1000000 in
theorem awake4 (w : World) : Calls Try.prog 6 #[] w fun e w' => e = .returned (.bool true) ∧ Below w.heap.size w w' := by
  have kc := fun (w : World) (C : Array Value) (n c : Nat) => Lib.run_convert_bytes_const (P := Try.prog) w 22 5 C n c Try.underlying22 Try.underlying5
  have kc2 : ∀ (w : World) (C C0 : Array Value) (f : Nat × Nat) (n c : Nat), Sem.run Try.prog (convert 22 22 (Value.slice (some ⟨w.heap.size + 1, 0, none⟩) n c)) ((w.alloc (Obj.cells C0 5 f)).alloc (Obj.cells C 5)) =
      Result.ok (Value.slice (some ⟨w.heap.size + 1, 0, none⟩) n c) ((w.alloc (Obj.cells C0 5 f)).alloc (Obj.cells C 5 (C.size, C.size + 1))) := fun w C C0 f n c => by
    have h := kc (w.alloc (Obj.cells C0 5 f)) C n c
    simpa using h
  have HL0 := Lib.hid (hashN_len [])
  have HL1 := Lib.hid (hashN_len [97, 98, 99])
  have HZ : Hid (b32.length = 32) := b32_len
  go_enter Try.func6, Try.ntmps6
  go_wp2_with fail
  refine (shaOf_any [] _ _ _ _ rfl (Bss.none _ _ _ (by decide)) (by decide)).mono ?_
  rintro e w1 ⟨rfl, hb1⟩
  have HB1 := Lib.hid hb1
  clear hb1
  rw [show hashN (List.flatten []) = hashN [] from rfl]
  generalize hH0 : hashN [] = H0 at *
  have HH0 := Lib.hid hH0
  clear hH0
  go_wp2_with (first
    | ((with_reducible refine wpList_alloc32m rfl rfl ?_); intro w2 G hG hat2 hb2)
    | ((with_reducible refine wpList_storeBn (T := 24) (n := 32) info_32 rfl (.tmp 1) (.tmp 3) rfl rfl H0 rfl HZ.out HL0.out hat2.out ?_); intro w3 hat3 hk3; (try simp only [Act.put, List.setIfInBounds_toArray, List.set_cons_zero, List.set_cons_succ])))
  have hbw3 : Below w.heap.size w w3 := (HB1.out.trans (hb2.out.mono HB1.out.size)).trans (hk3.out.below (Nat.le_trans HB1.out.size hb2.out.size) (fun i hi => by have := hG.out; have := HB1.out.size; omega))
  have HBW3 := Lib.hid hbw3
  clear hbw3 hk3 hb2 hat2 hG HB1
  refine (shaOf_any [[97], [98, 99]] _ _ _ _ rfl ?_ (by decide)).mono ?_
  · refine Bss.two [97] [98, 99] rfl rfl (heap_alloc_at _ _ _ (by simp)) ?_ ?_
    · refine Bs.lit (C := #[Value.int IntKind.u8 97]) (e := 5) (fr := (1, 2)) ?_ [97] rfl 1 (by decide) (by decide)
      rw [heap_alloc_old _ _ (by simp; omega), heap_alloc_old _ _ (by simp)]
      exact heap_alloc_new _ _
    · refine Bs.lit (C := #[Value.int IntKind.u8 98, Value.int IntKind.u8 99]) (e := 5) (fr := (2, 3)) ?_ [98, 99] rfl 2 (by decide) (by decide)
      rw [heap_alloc_old _ _ (by simp)]
      exact heap_alloc_at _ _ _ (by simp)
  rintro e w4 ⟨rfl, hb4⟩
  have hb34 : Below w3.heap.size w3 w4 := ((((Below.refl _ _).alloc (Nat.le_refl _) _).alloc (by simp) _).alloc (by simp; omega) _).trans (hb4.mono (by simp; omega))
  have HB34 := Lib.hid hb34
  have HAT4 : Hid (ArrBAt 24 w4 G H0) := hat3.out.below hb34
  clear hb4 hb34 hat3 kc kc2
  rw [show hashN (List.flatten [[97], [98, 99]]) = hashN [97, 98, 99] from rfl]
  generalize hH1 : hashN [97, 98, 99] = H1 at *
  have HH1 := Lib.hid hH1
  clear hH1
  have g0 : ∀ j x, j < 32 → (hashN []).getD j 0 = x → H0.getD j 0 = x := fun j x _ h => by rw [← HH0.out]; exact h
  have g1 : ∀ j x, j < 32 → (hashN [97, 98, 99]).getD j 0 = x → H1.getD j 0 = x := fun j x _ h => by rw [← HH1.out]; exact h
  have a0 := g0 0 227 (by omega) (by rw [hash_0]; rfl)
  have a1 := g0 1 176 (by omega) (by rw [hash_0]; rfl)
  have a2 := g0 2 196 (by omega) (by rw [hash_0]; rfl)
  have a3 := g0 3 66 (by omega) (by rw [hash_0]; rfl)
  have c0 := g1 0 186 (by omega) (by rw [hash_1]; rfl)
  have c1 := g1 1 120 (by omega) (by rw [hash_1]; rfl)
  have c2 := g1 2 22 (by omega) (by rw [hash_1]; rfl)
  have c3 := g1 3 191 (by omega) (by rw [hash_1]; rfl)
  have GG := Lib.hid (And.intro a0 (And.intro a1 (And.intro a2 (And.intro a3 (And.intro c0 (And.intro c1 (And.intro c2 c3)))))))
  clear g0 g1 a0 a1 a2 a3 c0 c1 c2 c3 HH0 HH1
  go_wp2_with (first
    | ((with_reducible refine wpList_alloc32m rfl rfl ?_); intro w5 B hB hat5 hb5; have HAT5 : Hid (ArrBAt 24 w5 G H0) := HAT4.out.below hb5.out)
    | ((with_reducible refine wpList_storeBn (T := 24) (n := 32) info_32 rfl (.tmp 2) (.tmp 9) rfl rfl H1 rfl HZ.out HL1.out hat5.out ?_); intro w6 hat6 hk6; (try simp only [Act.put, List.setIfInBounds_toArray, List.set_cons_zero, List.set_cons_succ]); have hG6 : G < B := (by have := HAT4.out.lt; have := hB.out; omega); have HAT6 : Hid (ArrBAt 24 w6 G H0) := HAT5.out.kept hk6.out (by omega); have HB6 : Hid (ArrBAt 24 w6 B H1) := hat6; have hb46 : Below w4.heap.size w4 w6 := hb5.out.trans (hk6.out.below hb5.out.size (fun i hi => by have := hB.out; omega)); have HB46 := Lib.hid hb46;
        have l0 := HAT6.out.cell (j := 0) (by rw [HL0.out]; omega); have l1 := HAT6.out.cell (j := 1) (by rw [HL0.out]; omega); have l2 := HAT6.out.cell (j := 2) (by rw [HL0.out]; omega); have l3 := HAT6.out.cell (j := 3) (by rw [HL0.out]; omega);
        have m0 := HB6.out.cell (j := 0) (by rw [HL1.out]; omega); have m1 := HB6.out.cell (j := 1) (by rw [HL1.out]; omega); have m2 := HB6.out.cell (j := 2) (by rw [HL1.out]; omega); have m3 := HB6.out.cell (j := 3) (by rw [HL1.out]; omega);
        rw [GG.out.1] at l0; rw [GG.out.2.1] at l1; rw [GG.out.2.2.1] at l2; rw [GG.out.2.2.2.1] at l3; rw [GG.out.2.2.2.2.1] at m0; rw [GG.out.2.2.2.2.2.1] at m1; rw [GG.out.2.2.2.2.2.2.1] at m2; rw [GG.out.2.2.2.2.2.2.2] at m3; clear hb46 hk6 hat6 hb5 hat5 HAT5 hB))
  go_ret
  exact ⟨rfl, (HBW3.out.trans (HB34.out.mono HBW3.out.size)).trans (HB46.out.mono (Nat.le_trans HBW3.out.size HB34.out.size))⟩
end Go.Proofs.Ytegeglnfpddgfaa
