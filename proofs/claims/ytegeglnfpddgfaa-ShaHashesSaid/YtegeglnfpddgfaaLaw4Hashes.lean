/- The walk of the law ShaHashes: it returns true, and leaves what was there as it was. -/
import Derived.Test.YtegeglnfpddgfaaShaEq
import Derived.Test.YtegeglnfpddgfaaLaw4Awake
namespace Go.Proofs.Ytegeglnfpddgfaa
open Go.RowKit

set_option maxRecDepth 100000 in
set_option maxHeartbeats 2000000 in
theorem ShaHashes_walk (a0 : Option Addr) (l0 : List UInt8) (n0 c0 : Nat) (x1 : Int) (w : World) (hn0 : n0 = l0.length) (hb0 : Bs w a0 c0 l0)
    (hx : -9223372036854775808 ≤ x1 ∧ x1 ≤ 9223372036854775807) :
    Calls Try.prog 3 #[.slice a0 n0 c0, .int .i64 x1] w fun e w' => e = .returned (.bool true) ∧ Below w.heap.size w w' := by
  have hf0 := hb0.fits hn0
  obtain ⟨hxa, hxb⟩ := hx
  have HN0 := Lib.hid hn0
  have HB0 := Lib.hid hb0
  clear hn0 hb0
  by_cases h1 : 400 < n0
  · go_enter Try.func3, Try.ntmps3
    go_wp2_with (go_at_call 6; refine (awake4 _).mono ?_; rintro e w1 ⟨rfl, hb1⟩)
    go_ret
    exact ⟨rfl, hb1⟩
  go_enter Try.func3, Try.ntmps3
  go_wp2_with fail
  refine (refHash_any a0 l0 n0 c0 _ HN0.out HB0.out (by omega)).mono ?_
  rintro e w1 ⟨rfl, hb1⟩
  have HL := Lib.hid (hashN_len l0)
  have HZ : Hid (b32.length = 32) := b32_len
  have HB1 := Lib.hid hb1
  clear hb1
  obtain ⟨H, hH⟩ : ∃ H, H = hashN l0 := ⟨_, rfl⟩
  rw [← hH] at HL ⊢
  have HH := Lib.hid hH
  have E32 : Hid (∀ w, (Op.equalIn 10000 24 (.agg (arrB H)) (.agg (arrB H))).run Try.prog w = .ok true w) := fun w => eql32 w H HL.out
  clear hH
  go_wp2_with (first
    | ((with_reducible refine wpList_alloc32m rfl rfl ?_); intro w2 G hG hat2 hb2)
    | ((with_reducible refine wpList_storeBn (T := 24) (n := 32) info_32 rfl (.tmp 5) (.tmp 11) rfl rfl H rfl HZ.out HL.out hat2.out ?_); intro w3 hat3 hk3; (try simp only [Act.put, List.setIfInBounds_toArray, List.set_cons_zero, List.set_cons_succ])))
  have hbw3 : Below w.heap.size w w3 := (HB1.out.trans (hb2.out.mono HB1.out.size)).trans (hk3.out.below (Nat.le_trans HB1.out.size hb2.out.size) (fun i hi => by have := hG.out; have := HB1.out.size; omega))
  have HBW3 := Lib.hid hbw3
  have HAT : Hid (ArrBAt 24 w3 G H) := hat3
  clear hbw3 hk3 hb2 hat2 hG HB1 hat3
  have HOF : Hid (∀ (ls : List (List UInt8)) (a : Option Addr) (n cap : Nat) (w : World), n = ls.length → Bss w a cap ls → ls.flatten = l0 → Calls Try.prog 8 #[.slice a n cap] w fun e w' => e = .returned (.agg (arrB H)) ∧ Below w.heap.size w w') := fun ls a n cap w hn hb hl => by
    have h := shaOf_any ls a n cap w hn hb (by rw [hl, ← HN0.out]; omega)
    rw [hl, ← HH.out] at h
    exact h
  refine hStart (fun w' => Below w3.heap.size w3 w') (by kernel_rfl) ?_
  have hHeld := (Below.refl w3.heap.size w3).drew
  refine hTake 0 (v := ?_) rfl (by kernel_rfl) (by kernel_rfl) (by kernel_rfl) (fun _ _ _ h => h) (by rfl) ?_ hHeld ?_
  rotate_left
  · intro w hSw; (try dsimp only at hSw); go_simp; (try with_reducible rfl)
  try simp only [Act.put, List.setIfInBounds_toArray, List.set_cons_zero, List.set_cons_succ]
  refine hTake 3 (v := (.agg (arrB H))) rfl (by kernel_rfl) (by kernel_rfl) (by kernel_rfl) (fun _ _ _ h => h) (by rfl) ?_ hHeld ?_
  · intro wy hSw; exact yield_loadB under_32 info_32 (.tmp 5) rfl rfl HL.out (HAT.out.below hSw)
  try simp only [Act.put, List.setIfInBounds_toArray, List.set_cons_zero, List.set_cons_succ]
  refine hStep 1 rfl (by kernel_rfl) (by rfl) (fun K hK => ?_)
  have HK := Lib.hid hK
  clear hK
  go_simp
  have hbA : Below w3.heap.size w3 (w3.drew.alloc (.cells #[.slice a0 n0 c0] 22)) := hHeld.alloc hHeld.size _
  have hHeldN := hbA
  refine HK.out _ _ hHeldN ?_
  clear HK K hHeld
  have hHeld := hHeldN
  clear hHeldN
  try simp only [Act.put, List.setIfInBounds_toArray, List.set_cons_zero, List.set_cons_succ]
  refine hStep 2 rfl (by kernel_rfl) (by rfl) (fun K hK => ?_)
  have HK := Lib.hid hK
  clear hK
  go_simp
  refine (HOF.out [l0] _ 1 1 _ rfl (Bss.one l0 HN0.out (heap_alloc_new _ _) (HB0.out.below (HBW3.out.trans (hHeld.mono HBW3.out.size)))) (by simp)).mono ?_
  rintro e w4 ⟨rfl, hb4⟩
  have hbB : Below w3.heap.size w3 w4 := hHeld.trans (hb4.mono hHeld.size)
  have hHeldN := hbB
  refine HK.out _ _ hHeldN ?_
  clear HK K hHeld
  have hHeld := hHeldN
  clear hHeldN
  try simp only [Act.put, List.setIfInBounds_toArray, List.set_cons_zero, List.set_cons_succ]
  refine hTake 4 (v := (.bool false)) rfl (by kernel_rfl) (by kernel_rfl) (by kernel_rfl) (fun _ _ _ h => h) (by rfl) ?_ hHeld ?_
  · intro wy hSw; exact yield_neqA guard32 (.tmp 14) (.tmp 15) rfl rfl rfl (E32.out wy)
  try simp only [Act.put, List.setIfInBounds_toArray, List.set_cons_zero, List.set_cons_succ]
  refine hDone (by kernel_rfl) ?_
  show NoPanic _ _ _ _
  refine NoPanic.normal ?_
  have HB34 := Lib.hid hHeld
  have HBW4 := Lib.hid (HBW3.out.trans (hHeld.mono HBW3.out.size))
  have HAT4 := Lib.hid (HAT.out.below hHeld)
  clear hHeld hbA hbB hb4 HAT HBW3 HB34
  have hszw : w.heap.size ≤ w4.heap.size := HBW4.out.size
  by_cases hcut : x1 < 0 ∨ (n0 : Int) < x1
  · rcases hcut with hc | hc
    · go_wp2_with (go_at_call 6; refine (awake4 _).mono ?_; rintro e w5 ⟨rfl, hb5⟩)
      go_ret
      exact ⟨rfl, HBW4.out.trans (hb5.mono hszw)⟩
    · have hc0 : ¬ x1 < 0 := by omega
      go_wp2_with (go_at_call 6; refine (awake4 _).mono ?_; rintro e w5 ⟨rfl, hb5⟩)
      go_ret
      exact ⟨rfl, HBW4.out.trans (hb5.mono hszw)⟩
  obtain ⟨c, rfl⟩ : ∃ c : Nat, x1 = (c : Int) := ⟨x1.toNat, by omega⟩
  have hcn : c ≤ n0 := by omega
  have hc0 : (c : Int) ≤ (n0 : Int) := by omega
  clear hcut
  have hcap : n0 ≤ c0 := by have := HB0.out.le; have := HN0.out; omega
  obtain ⟨A1, hA1⟩ : ∃ A1, A1 = cutA a0 c0 0 := ⟨_, rfl⟩
  obtain ⟨A2, hA2⟩ : ∃ A2, A2 = cutA a0 c0 c := ⟨_, rfl⟩
  obtain ⟨m2, hm2⟩ : ∃ m2, m2 = n0 - c := ⟨_, rfl⟩
  obtain ⟨c2, hc2⟩ : ∃ c2, c2 = c0 - c := ⟨_, rfl⟩
  have HC1 : Hid (∀ w' : World, (Instr.sliceAt 22 (.slice a0 n0 c0) none (some (.int .i64 (c : Int))) none).run Try.prog w' = .ok (.slice A1 c c0) w') := fun w' => by
    rw [hA1]; exact run_cutTo w' a0 n0 c0 c (by omega)
  have HC2 : Hid (∀ w' : World, (Instr.sliceAt 22 (.slice a0 n0 c0) (some (.int .i64 (c : Int))) none none).run Try.prog w' = .ok (.slice A2 m2 c2) w') := fun w' => by
    rw [hA2, hm2, hc2]; exact run_cutFrom w' a0 n0 c0 c hcn
  have HP1 : Hid (∀ w', Below w.heap.size w w' → Bs w' A1 c0 (l0.take c)) := fun w' h => by rw [hA1]; exact (HB0.out.below h).cutTo (by have := HN0.out; omega)
  have HP2 : Hid (∀ w', Below w.heap.size w w' → Bs w' A2 c2 (l0.drop c)) := fun w' h => by rw [hA2, hc2]; exact (HB0.out.below h).cutFrom (by have := HN0.out; omega)
  have HM1 : Hid (c = (l0.take c).length) := by show _ = _; rw [List.length_take]; have := HN0.out; omega
  have HM2 : Hid (m2 = (l0.drop c).length) := by show _ = _; rw [List.length_drop, ← HN0.out, hm2]
  clear hA1 hA2 hm2 hc2
  go_wp2_with fail
  refine hStart (fun w' => Below w4.heap.size w4 w') (by kernel_rfl) ?_
  have hHeld := (Below.refl w4.heap.size w4).drew
  refine hTake 0 (v := ?_) rfl (by kernel_rfl) (by kernel_rfl) (by kernel_rfl) (fun _ _ _ h => h) (by rfl) ?_ hHeld ?_
  rotate_left
  · intro w hSw; (try dsimp only at hSw); go_simp; (try with_reducible rfl)
  try simp only [Act.put, List.setIfInBounds_toArray, List.set_cons_zero, List.set_cons_succ]
  refine hTake 1 (v := ?_) rfl (by kernel_rfl) (by kernel_rfl) (by kernel_rfl) (fun _ _ _ h => h) (by rfl) ?_ hHeld ?_
  rotate_left
  · intro w hSw; (try dsimp only at hSw); go_simp; (try with_reducible rfl)
  try simp only [Act.put, List.setIfInBounds_toArray, List.set_cons_zero, List.set_cons_succ]
  refine hTake 3 (v := ?_) rfl (by kernel_rfl) (by kernel_rfl) (by kernel_rfl) (fun _ _ _ h => h) (by rfl) ?_ hHeld ?_
  rotate_left
  · intro w hSw; (try dsimp only at hSw); go_simp; (try with_reducible rfl)
  try simp only [Act.put, List.setIfInBounds_toArray, List.set_cons_zero, List.set_cons_succ]
  refine hTake 4 (v := ?_) rfl (by kernel_rfl) (by kernel_rfl) (by kernel_rfl) (fun _ _ _ h => h) (by rfl) ?_ hHeld ?_
  rotate_left
  · intro w hSw; (try dsimp only at hSw); go_simp; (try with_reducible rfl)
  try simp only [Act.put, List.setIfInBounds_toArray, List.set_cons_zero, List.set_cons_succ]
  refine hTake 2 (v := (.slice A1 c c0)) rfl (by kernel_rfl) (by kernel_rfl) (by kernel_rfl) (fun _ _ _ h => h) (by rfl) ?_ hHeld ?_
  · intro w hSw; have h1 := HC1.out w; go_simp; (try with_reducible rfl)
  try simp only [Act.put, List.setIfInBounds_toArray, List.set_cons_zero, List.set_cons_succ]
  refine hTake 5 (v := (.slice A2 m2 c2)) rfl (by kernel_rfl) (by kernel_rfl) (by kernel_rfl) (fun _ _ _ h => h) (by rfl) ?_ hHeld ?_
  · intro w hSw; have h1 := HC2.out w; go_simp; (try with_reducible rfl)
  try simp only [Act.put, List.setIfInBounds_toArray, List.set_cons_zero, List.set_cons_succ]
  refine hTake 8 (v := (.agg (arrB H))) rfl (by kernel_rfl) (by kernel_rfl) (by kernel_rfl) (fun _ _ _ h => h) (by rfl) ?_ hHeld ?_
  · intro wy hSw; exact yield_loadB under_32 info_32 (.tmp 5) rfl rfl HL.out (HAT4.out.below hSw)
  try simp only [Act.put, List.setIfInBounds_toArray, List.set_cons_zero, List.set_cons_succ]
  refine hStep 6 rfl (by kernel_rfl) (by rfl) (fun K hK => ?_)
  have HK := Lib.hid hK
  clear hK
  go_simp
  have hbA : Below w4.heap.size w4 (w4.drew.alloc (.cells #[.slice A1 c c0, .slice A2 m2 c2] 22)) := hHeld.alloc hHeld.size _
  have hHeldN := hbA
  refine HK.out _ _ hHeldN ?_
  clear HK K hHeld
  have hHeld := hHeldN
  clear hHeldN
  try simp only [Act.put, List.setIfInBounds_toArray, List.set_cons_zero, List.set_cons_succ]
  refine hStep 7 rfl (by kernel_rfl) (by rfl) (fun K hK => ?_)
  have HK := Lib.hid hK
  clear hK
  go_simp
  refine (HOF.out [l0.take c, l0.drop c] _ 2 2 _ rfl (Bss.two _ _ HM1.out HM2.out (heap_alloc_new _ _) (HP1.out _ (HBW4.out.trans (hHeld.mono hszw))) (HP2.out _ (HBW4.out.trans (hHeld.mono hszw)))) (by simp)).mono ?_
  rintro e w5 ⟨rfl, hb5⟩
  have hbB : Below w4.heap.size w4 w5 := hHeld.trans (hb5.mono hHeld.size)
  have hHeldN := hbB
  refine HK.out _ _ hHeldN ?_
  clear HK K hHeld
  have hHeld := hHeldN
  clear hHeldN
  try simp only [Act.put, List.setIfInBounds_toArray, List.set_cons_zero, List.set_cons_succ]
  refine hTake 9 (v := (.bool true)) rfl (by kernel_rfl) (by kernel_rfl) (by kernel_rfl) (fun _ _ _ h => h) (by rfl) ?_ hHeld ?_
  · intro wy hSw; exact yield_eqlA guard32 (.tmp 33) (.tmp 34) rfl rfl rfl (E32.out wy)
  try simp only [Act.put, List.setIfInBounds_toArray, List.set_cons_zero, List.set_cons_succ]
  refine hTake 10 (v := ?_) rfl (by kernel_rfl) (by kernel_rfl) (by kernel_rfl) (fun _ _ _ h => h) (by rfl) ?_ hHeld ?_
  rotate_left
  · intro w hSw; (try dsimp only at hSw); go_simp; (try with_reducible rfl)
  try simp only [Act.put, List.setIfInBounds_toArray, List.set_cons_zero, List.set_cons_succ]
  refine hTake 11 (v := ?_) rfl (by kernel_rfl) (by kernel_rfl) (by kernel_rfl) (fun _ _ _ h => h) (by rfl) ?_ hHeld ?_
  rotate_left
  · intro w hSw; (try dsimp only at hSw); go_simp; (try with_reducible rfl)
  try simp only [Act.put, List.setIfInBounds_toArray, List.set_cons_zero, List.set_cons_succ]
  refine hTake 14 (v := (.agg (arrB H))) rfl (by kernel_rfl) (by kernel_rfl) (by kernel_rfl) (fun _ _ _ h => h) (by rfl) ?_ hHeld ?_
  · intro wy hSw; exact yield_loadB under_32 info_32 (.tmp 5) rfl rfl HL.out (HAT4.out.below hSw)
  try simp only [Act.put, List.setIfInBounds_toArray, List.set_cons_zero, List.set_cons_succ]
  refine hStep 12 rfl (by kernel_rfl) (by rfl) (fun K hK => ?_)
  have HK := Lib.hid hK
  clear hK
  go_simp
  have hbC : Below w4.heap.size w4 (w5.alloc (.cells #[.slice none 0 0, .slice a0 n0 c0] 22)) := hHeld.alloc hHeld.size _
  have hHeldN := hbC
  refine HK.out _ _ hHeldN ?_
  clear HK K hHeld
  have hHeld := hHeldN
  clear hHeldN
  try simp only [Act.put, List.setIfInBounds_toArray, List.set_cons_zero, List.set_cons_succ]
  refine hStep 13 rfl (by kernel_rfl) (by rfl) (fun K hK => ?_)
  have HK := Lib.hid hK
  clear hK
  go_simp
  refine (HOF.out [[], l0] _ 2 2 _ rfl (Bss.two [] l0 rfl HN0.out (heap_alloc_new _ _) (Bs.empty _) (HB0.out.below (HBW4.out.trans (hHeld.mono hszw)))) (by simp)).mono ?_
  rintro e w6 ⟨rfl, hb6⟩
  have hbD : Below w4.heap.size w4 w6 := hHeld.trans (hb6.mono hHeld.size)
  have hHeldN := hbD
  refine HK.out _ _ hHeldN ?_
  clear HK K hHeld
  have hHeld := hHeldN
  clear hHeldN
  try simp only [Act.put, List.setIfInBounds_toArray, List.set_cons_zero, List.set_cons_succ]
  refine hTake 15 (v := (.bool true)) rfl (by kernel_rfl) (by kernel_rfl) (by kernel_rfl) (fun _ _ _ h => h) (by rfl) ?_ hHeld ?_
  · intro wy hSw; exact yield_eqlA guard32 (.tmp 39) (.tmp 40) rfl rfl rfl (E32.out wy)
  try simp only [Act.put, List.setIfInBounds_toArray, List.set_cons_zero, List.set_cons_succ]
  refine hTake 16 (v := ?_) rfl (by kernel_rfl) (by kernel_rfl) (by kernel_rfl) (fun _ _ _ h => h) (by rfl) ?_ hHeld ?_
  rotate_left
  · intro w hSw; (try dsimp only at hSw); go_simp; (try with_reducible rfl)
  try simp only [Act.put, List.setIfInBounds_toArray, List.set_cons_zero, List.set_cons_succ]
  refine hTake 17 (v := ?_) rfl (by kernel_rfl) (by kernel_rfl) (by kernel_rfl) (fun _ _ _ h => h) (by rfl) ?_ hHeld ?_
  rotate_left
  · intro w hSw; (try dsimp only at hSw); go_simp; (try with_reducible rfl)
  try simp only [Act.put, List.setIfInBounds_toArray, List.set_cons_zero, List.set_cons_succ]
  refine hStep 18 rfl (by kernel_rfl) (by rfl) (fun K hK => ?_)
  have HK := Lib.hid hK
  clear hK
  go_simp
  refine (awake4 _).mono ?_
  rintro e w7 ⟨rfl, hb7⟩
  have hbE : Below w4.heap.size w4 w7 := hHeld.trans (hb7.mono hHeld.size)
  have hHeldN := hbE
  refine HK.out _ _ hHeldN ?_
  clear HK K hHeld
  have hHeld := hHeldN
  clear hHeldN
  try simp only [Act.put, List.setIfInBounds_toArray, List.set_cons_zero, List.set_cons_succ]
  refine hTake 19 (v := ?_) rfl (by kernel_rfl) (by kernel_rfl) (by kernel_rfl) (fun _ _ _ h => h) (by rfl) ?_ hHeld ?_
  rotate_left
  · intro w hSw; (try dsimp only at hSw); go_simp; (try with_reducible rfl)
  try simp only [Act.put, List.setIfInBounds_toArray, List.set_cons_zero, List.set_cons_succ]
  refine hTake 20 (v := ?_) rfl (by kernel_rfl) (by kernel_rfl) (by kernel_rfl) (fun _ _ _ h => h) (by rfl) ?_ hHeld ?_
  rotate_left
  · intro w hSw; (try dsimp only at hSw); go_simp; (try with_reducible rfl)
  try simp only [Act.put, List.setIfInBounds_toArray, List.set_cons_zero, List.set_cons_succ]
  refine hDone (by kernel_rfl) ?_
  show NoPanic _ _ _ _
  refine NoPanic.normal ?_
  have HBW7 := Lib.hid (HBW4.out.trans (hHeld.mono hszw))
  clear hHeld hbA hbB hbC hbD hbE hb5 hb6 hb7
  go_wp2
  go_ret
  exact ⟨rfl, HBW7.out⟩
end Go.Proofs.Ytegeglnfpddgfaa
