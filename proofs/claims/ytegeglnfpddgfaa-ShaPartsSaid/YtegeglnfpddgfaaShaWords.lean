/- The walk of sha.words. -/
import Derived.Test.YtegeglnfpddgfaaShaRoots
namespace Go.Proofs.Ytegeglnfpddgfaa
open Go.RowKit

/-- The words so far, the rest zero. -/
def padW (b : List UInt8) (k : Nat) : List Nat := wordsTo b k ++ List.replicate (64 - k) 0
theorem padW_len (b : List UInt8) (k : Nat) (h : k ≤ 64) : (padW b k).length = 64 := by
  unfold padW; rw [List.length_append, wordsTo_len, List.length_replicate]; omega
theorem padW_set (b : List UInt8) (k : Nat) (h : k < 64) : (padW b k).set k (wordK b (wordsTo b k) k) = padW b (k + 1) := by
  unfold padW
  rw [List.set_append_right _ _ (by rw [wordsTo_len]; exact Nat.le_refl _), wordsTo_len, Nat.sub_self, show 64 - k = (64 - (k + 1)) + 1 by omega, List.replicate_succ, List.set_cons_zero, wordsTo, List.append_assoc]
  rfl
theorem padW_at (b : List UInt8) (k j : Nat) (h : j < k) : (padW b k).getD j 0 = (wordsTo b k).getD j 0 := by
  unfold padW
  simp only [List.getD]
  rw [List.getElem?_append_left (by rw [wordsTo_len]; exact h)]
theorem padW_end (b : List UInt8) : padW b 64 = wordsN b := by unfold padW wordsN; simp
theorem padW_0 (b : List UInt8) : padW b 0 = z64 := rfl
theorem or_word (a b c d : Nat) (hb : b < 256) (hc : c < 256) (hd : d < 256) :
    a * 16777216 ||| b * 65536 = a * 16777216 + b * 65536 ∧ (a * 16777216 + b * 65536) ||| c * 256 = a * 16777216 + b * 65536 + c * 256 ∧ (a * 16777216 + b * 65536 + c * 256) ||| d = a * 16777216 + b * 65536 + c * 256 + d := by
  have h1 := Nat.two_pow_add_eq_or_of_lt (i := 24) (b := b * 65536) (by omega) a
  have h2 := Nat.two_pow_add_eq_or_of_lt (i := 16) (b := c * 256) (by omega) (a * 256 + b)
  have h3 := Nat.two_pow_add_eq_or_of_lt (i := 8) (b := d) (by omega) (a * 65536 + b * 256 + c)
  refine ⟨?_, ?_, ?_⟩
  · rw [show a * 16777216 = 2 ^ 24 * a by omega, ← h1]
  · rw [show a * 16777216 + b * 65536 = 2 ^ 16 * (a * 256 + b) by omega, ← h2]
  · rw [show a * 16777216 + b * 65536 + c * 256 = 2 ^ 8 * (a * 65536 + b * 256 + c) by omega, ← h3]

theorem cell_set_ne {T : TypeId} {w : World} {g : Nat} {l : List Nat} (h : ArrAt T w g l) (j k : Nat) (hj : j ≠ k) (v : Nat) : (w.setCell ⟨g, k, none⟩ (.int .u32 (v : Int))).cell? ⟨g, j, none⟩ = w.cell? ⟨g, j, none⟩ := by
  rw [cell_of_row w g j _ _ _ h, cell_of_row _ g j _ _ _ (heap_setCell_same w g k _ _ _ h), Array.getElem?_setIfInBounds_ne (by omega)]

set_option maxRecDepth 100000 in
set_option maxHeartbeats 8000000 in
theorem words_any (a : Option Addr) (b : List UInt8) (n cap : Nat) (w : World) (hn : n = b.length) (hn64 : n = 64) (hb : Bs w a cap b) :
    Calls Try.prog 25 #[.slice a n cap] w fun e w' => e = .returned (.agg (arr (wordsN b))) ∧ Below w.heap.size w w' := by
  have HN := Lib.hid hn
  have HB := Lib.hid hb
  have hnle : n ≤ 64 := by omega
  have hnge : 64 ≤ n := by omega
  clear hn hb hn64
  obtain ⟨w1, hw1⟩ : ∃ w1, w1 = (w.alloc (.cells (arr z64) 46)).alloc (.cells (arr z64) 46) := ⟨_, rfl⟩
  have hat : ArrAt 46 w1 (w.heap.size + 1) z64 := by rw [hw1]; exact heap_alloc2_new w _ _
  have hat0 : ArrAt 46 w1 w.heap.size z64 := by rw [hw1]; exact heap_alloc2_old w _ _
  have hb1 : Below w.heap.size w w1 := by rw [hw1]; exact ((Below.refl _ _).alloc (Nat.le_refl _) _).alloc (by simp) _
  have HW1 := Lib.hid hw1
  obtain ⟨G, hG⟩ : ∃ G, G = w.heap.size := ⟨_, rfl⟩
  rw [← hG] at hat hat0
  have HG := Lib.hid hG
  have HAT := Lib.hid hat
  have HAT0 := Lib.hid hat0
  clear hw1 hat hat0 hG
  go_enter Try.func25, Try.ntmps25
  go_wp2_with (with_reducible refine wpList_alloc64 rfl rfl ?_)
  rw [← HW1.out]
  rw [← HG.out]
  go_loopw [4, 5, 6, 7] (fun _ _ _ i wr => ∃ k : Nat, k ≤ 64 ∧ i = .int .i64 (k : Int) ∧ ArrAt 46 wr (G + 1) (padW b k) ∧ ArrAt 46 wr G z64 ∧ Below w.heap.size w wr) (fun _ _ _ i _ => 64 - (intOf i).toNat)
  case atStart => exact ⟨0, Nat.zero_le _, rfl, HAT.out, HAT0.out, hb1⟩
  case round =>
    obtain ⟨k, hk, rfl, hat, hat0, hbr⟩ := hrel
    have HA := Lib.hid hat
    have HA0 := Lib.hid hat0
    clear hat hat0
    by_cases hlt : k < 64
    · have HSET := Lib.hid (padW_set b k hlt)
      have hfr := HA.out.free k
      have hck := HA.out.cell (j := k) (by rw [padW_len b k hk]; exact hlt)
      generalize (padW b k).getD k 0 = old at hck
      have HNEXT : Hid (∀ w' v, v = wordK b (wordsTo b k) k → w'.heap = (wr.setCell ⟨G + 1, k, none⟩ (.int .u32 (v : Int))).heap → ArrAt 46 w' (G + 1) (padW b (k + 1)) ∧ ArrAt 46 w' G z64) := fun w' v hv hw' => by
        have h1 := HA.out.set k v
        have h2 : ArrAt 46 (wr.setCell ⟨G + 1, k, none⟩ (.int .u32 (v : Int))) G z64 := HA0.out.kept (U := (· = G + 1)) (Kept.setCell _ _ _ rfl) (by omega)
        rw [hv, HSET.out, ← hv] at h1
        unfold ArrAt at h1 h2 ⊢
        rw [hw']; exact ⟨h1, h2⟩
      by_cases h16 : k < 16
      · obtain ⟨b0, off, rfl, hc0, hbl⟩ := HB.out.at (k := 4 * k) (by have := HN.out; omega)
        obtain ⟨_, _, hab1, hc1, -⟩ := HB.out.at (k := 4 * k + 1) (by have := HN.out; omega)
        obtain ⟨_, _, hab2, hc2, -⟩ := HB.out.at (k := 4 * k + 2) (by have := HN.out; omega)
        obtain ⟨_, _, hab3, hc3, -⟩ := HB.out.at (k := 4 * k + 3) (by have := HN.out; omega)
        cases hab1; cases hab2; cases hab3
        have HWK : Hid (wordK b (wordsTo b k) k = (b.getD (4 * k) 0).toNat * 16777216 + (b.getD (4 * k + 1) 0).toNat * 65536 + (b.getD (4 * k + 2) 0).toNat * 256 + (b.getD (4 * k + 3) 0).toNat) := by show _ = _; unfold wordK; rw [if_pos h16]; rfl
        have l0 : (b.getD (4 * k) 0).toNat < 256 := (b.getD (4 * k) 0).toNat_lt
        have l1 : (b.getD (4 * k + 1) 0).toNat < 256 := (b.getD (4 * k + 1) 0).toNat_lt
        have l2 : (b.getD (4 * k + 2) 0).toNat < 256 := (b.getD (4 * k + 2) 0).toNat_lt
        have l3 : (b.getD (4 * k + 3) 0).toNat < 256 := (b.getD (4 * k + 3) 0).toNat_lt
        generalize (b.getD (4 * k) 0).toNat = d0 at *
        generalize (b.getD (4 * k + 1) 0).toNat = d1 at *
        generalize (b.getD (4 * k + 2) 0).toNat = d2 at *
        generalize (b.getD (4 * k + 3) 0).toNat = d3 at *
        obtain ⟨q0, hq0⟩ : ∃ q, q = 4 * k := ⟨_, rfl⟩
        obtain ⟨q1, hq1⟩ : ∃ q, q = q0 + 1 := ⟨_, rfl⟩
        obtain ⟨q2, hq2⟩ : ∃ q, q = q0 + 2 := ⟨_, rfl⟩
        obtain ⟨q3, hq3⟩ : ∃ q, q = q0 + 3 := ⟨_, rfl⟩
        rw [← hq0] at hc0
        rw [← hq0, ← hq1] at hc1
        rw [← hq0, ← hq2] at hc2
        rw [← hq0, ← hq3] at hc3
        have ld : ∀ q (d : Nat), w.cell? ⟨b0, off + q, none⟩ = some (.int .u8 (d : Int)) → ∀ w', Kept (· = G + 1) wr w' → w'.cell? ⟨b0, off + q, none⟩ = some (.int .u8 (d : Int)) := fun q d hc w' h => by
          rw [(hbr.trans (h.below hbr.size (fun z hz => by have := HG.out; omega))).cell hbl]; exact hc
        have C0 := Lib.hid (ld q0 d0 hc0)
        have C1 := Lib.hid (ld q1 d1 hc1)
        have C2 := Lib.hid (ld q2 d2 hc2)
        have C3 := Lib.hid (ld q3 d3 hc3)
        have I0 : Hid (IntKind.i64.wrap (4 * (k : Int)) = (q0 : Int)) := by show _ = _; rw [IntKind.wrap_i64]; omega
        have I1 : Hid (IntKind.i64.wrap ((q0 : Int) + 1) = (q1 : Int)) := by show _ = _; rw [IntKind.wrap_i64]; omega
        have I2 : Hid (IntKind.i64.wrap ((q0 : Int) + 2) = (q2 : Int)) := by show _ = _; rw [IntKind.wrap_i64]; omega
        have I3 : Hid (IntKind.i64.wrap ((q0 : Int) + 3) = (q3 : Int)) := by show _ = _; rw [IntKind.wrap_i64]; omega
        have hl0 : q0 < n := by omega
        have hl1 : q1 < n := by omega
        have hl2 : q2 < n := by omega
        have hl3 : q3 < n := by omega
        obtain ⟨o1, o2, o3⟩ := or_word d0 d1 d2 d3 l1 l2 l3
        obtain ⟨s0, hs0⟩ : ∃ s, s = d0 * 16777216 := ⟨_, rfl⟩
        obtain ⟨s1, hs1⟩ : ∃ s, s = d1 * 65536 := ⟨_, rfl⟩
        obtain ⟨s2, hs2⟩ : ∃ s, s = d2 * 256 := ⟨_, rfl⟩
        obtain ⟨u1, hu1⟩ : ∃ s, s = s0 + s1 := ⟨_, rfl⟩
        obtain ⟨u2, hu2⟩ : ∃ s, s = u1 + s2 := ⟨_, rfl⟩
        obtain ⟨u3, hu3⟩ : ∃ s, s = u2 + d3 := ⟨_, rfl⟩
        have O1 : Hid (bits BinOp.or IntKind.u32 (s0 : Int) (s1 : Int) = (u1 : Int)) := by
          show _ = _
          rw [u32_or_nat s0 s1 (by omega) (by omega), hs0, hs1, o1, hu1, hs0, hs1]
        have O2 : Hid (bits BinOp.or IntKind.u32 (u1 : Int) (s2 : Int) = (u2 : Int)) := by
          show _ = _
          rw [u32_or_nat u1 s2 (by omega) (by omega), hu2, hu1, hs0, hs1, hs2, o2]
        have O3 : Hid (bits BinOp.or IntKind.u32 (u2 : Int) (d3 : Int) = (u3 : Int)) := by
          show _ = _
          rw [u32_or_nat u2 d3 (by omega) (by omega), hu3, hu2, hu1, hs0, hs1, hs2, o3]
        have W0 : Hid (IntKind.u32.wrap (d0 : Int) = (d0 : Int)) := by show _ = _; rw [IntKind.wrap_u32']; omega
        have W1 : Hid (IntKind.u32.wrap (d1 : Int) = (d1 : Int)) := by show _ = _; rw [IntKind.wrap_u32']; omega
        have W2 : Hid (IntKind.u32.wrap (d2 : Int) = (d2 : Int)) := by show _ = _; rw [IntKind.wrap_u32']; omega
        have W3 : Hid (IntKind.u32.wrap (d3 : Int) = (d3 : Int)) := by show _ = _; rw [IntKind.wrap_u32']; omega
        have S0 : Hid (IntKind.u32.wrap ((d0 : Int) * 16777216) = (s0 : Int)) := by show _ = _; rw [IntKind.wrap_u32']; omega
        have S1 : Hid (IntKind.u32.wrap ((d1 : Int) * 65536) = (s1 : Int)) := by show _ = _; rw [IntKind.wrap_u32']; omega
        have S2 : Hid (IntKind.u32.wrap ((d2 : Int) * 256) = (s2 : Int)) := by show _ = _; rw [IntKind.wrap_u32']; omega
        have HV : Hid (u3 = wordK b (wordsTo b k) k) := by show _ = _; rw [HWK.out]; omega
        clear ld hc0 hc1 hc2 hc3 hq0 hq1 hq2 hq3 o1 o2 o3 hs0 hs1 hs2 hu1 hu2 hu3
        have hbn : b0 ≠ G + 1 := by have := HG.out; omega
        go_wp2_with fail
        refine hStart (fun w' => Kept (· = G + 1) wr w') (by kernel_rfl) ?_
        have hHeld := Kept.drew (· = G + 1) wr
        refine hTake 0 (v := ?_) rfl (by kernel_rfl) (by kernel_rfl) (by kernel_rfl) (fun _ _ _ h => h) (by rfl) ?_ hHeld ?_
        rotate_left
        · intro w hSw; (try dsimp only at hSw); go_simp; (try with_reducible rfl)
        try simp only [Act.put, List.setIfInBounds_toArray, List.set_cons_zero, List.set_cons_succ]
        refine hTake 1 (v := ?_) rfl (by kernel_rfl) (by kernel_rfl) (by kernel_rfl) (fun _ _ _ h => h) (by rfl) ?_ hHeld ?_
        rotate_left
        · intro w hSw; (try dsimp only at hSw); go_simp; (try with_reducible rfl)
        try simp only [Act.put, List.setIfInBounds_toArray, List.set_cons_zero, List.set_cons_succ]
        refine hTake 2 (v := ?_) rfl (by kernel_rfl) (by kernel_rfl) (by kernel_rfl) (fun _ _ _ h => h) (by rfl) ?_ hHeld ?_
        rotate_left
        · intro w hSw; (try dsimp only at hSw); go_simp; (try with_reducible rfl)
        try simp only [Act.put, List.setIfInBounds_toArray, List.set_cons_zero, List.set_cons_succ]
        refine hTake 8 (v := ?_) rfl (by kernel_rfl) (by kernel_rfl) (by kernel_rfl) (fun _ _ _ h => h) (by rfl) ?_ hHeld ?_
        rotate_left
        · intro w hSw; (try dsimp only at hSw); go_simp; (try with_reducible rfl)
        try simp only [Act.put, List.setIfInBounds_toArray, List.set_cons_zero, List.set_cons_succ]
        refine hTake 9 (v := ?_) rfl (by kernel_rfl) (by kernel_rfl) (by kernel_rfl) (fun _ _ _ h => h) (by rfl) ?_ hHeld ?_
        rotate_left
        · intro w hSw; (try dsimp only at hSw); go_simp; (try with_reducible rfl)
        try simp only [Act.put, List.setIfInBounds_toArray, List.set_cons_zero, List.set_cons_succ]
        refine hTake 17 (v := ?_) rfl (by kernel_rfl) (by kernel_rfl) (by kernel_rfl) (fun _ _ _ h => h) (by rfl) ?_ hHeld ?_
        rotate_left
        · intro w hSw; (try dsimp only at hSw); go_simp; (try with_reducible rfl)
        try simp only [Act.put, List.setIfInBounds_toArray, List.set_cons_zero, List.set_cons_succ]
        refine hTake 18 (v := ?_) rfl (by kernel_rfl) (by kernel_rfl) (by kernel_rfl) (fun _ _ _ h => h) (by rfl) ?_ hHeld ?_
        rotate_left
        · intro w hSw; (try dsimp only at hSw); go_simp; (try with_reducible rfl)
        try simp only [Act.put, List.setIfInBounds_toArray, List.set_cons_zero, List.set_cons_succ]
        refine hTake 26 (v := ?_) rfl (by kernel_rfl) (by kernel_rfl) (by kernel_rfl) (fun _ _ _ h => h) (by rfl) ?_ hHeld ?_
        rotate_left
        · intro w hSw; (try dsimp only at hSw); go_simp; (try with_reducible rfl)
        try simp only [Act.put, List.setIfInBounds_toArray, List.set_cons_zero, List.set_cons_succ]
        refine hTake 27 (v := ?_) rfl (by kernel_rfl) (by kernel_rfl) (by kernel_rfl) (fun _ _ _ h => h) (by rfl) ?_ hHeld ?_
        rotate_left
        · intro w hSw; (try dsimp only at hSw); go_simp; (try with_reducible rfl)
        try simp only [Act.put, List.setIfInBounds_toArray, List.set_cons_zero, List.set_cons_succ]
        refine hTake 3 (v := (.int .i64 (q0 : Int))) rfl (by kernel_rfl) (by kernel_rfl) (by kernel_rfl) (fun _ _ _ h => h) (by rfl) ?_ hHeld ?_
        · intro w hSw; have h1 := I0.out; go_simp; (try with_reducible rfl)
        try simp only [Act.put, List.setIfInBounds_toArray, List.set_cons_zero, List.set_cons_succ]
        refine hTake 10 (v := (.int .i64 (q0 : Int))) rfl (by kernel_rfl) (by kernel_rfl) (by kernel_rfl) (fun _ _ _ h => h) (by rfl) ?_ hHeld ?_
        · intro w hSw; have h1 := I0.out; go_simp; (try with_reducible rfl)
        try simp only [Act.put, List.setIfInBounds_toArray, List.set_cons_zero, List.set_cons_succ]
        refine hTake 19 (v := (.int .i64 (q0 : Int))) rfl (by kernel_rfl) (by kernel_rfl) (by kernel_rfl) (fun _ _ _ h => h) (by rfl) ?_ hHeld ?_
        · intro w hSw; have h1 := I0.out; go_simp; (try with_reducible rfl)
        try simp only [Act.put, List.setIfInBounds_toArray, List.set_cons_zero, List.set_cons_succ]
        refine hTake 28 (v := (.int .i64 (q0 : Int))) rfl (by kernel_rfl) (by kernel_rfl) (by kernel_rfl) (fun _ _ _ h => h) (by rfl) ?_ hHeld ?_
        · intro w hSw; have h1 := I0.out; go_simp; (try with_reducible rfl)
        try simp only [Act.put, List.setIfInBounds_toArray, List.set_cons_zero, List.set_cons_succ]
        refine hTake 11 (v := (.int .i64 (q1 : Int))) rfl (by kernel_rfl) (by kernel_rfl) (by kernel_rfl) (fun _ _ _ h => h) (by rfl) ?_ hHeld ?_
        · intro w hSw; have h1 := I1.out; go_simp; (try with_reducible rfl)
        try simp only [Act.put, List.setIfInBounds_toArray, List.set_cons_zero, List.set_cons_succ]
        refine hTake 20 (v := (.int .i64 (q2 : Int))) rfl (by kernel_rfl) (by kernel_rfl) (by kernel_rfl) (fun _ _ _ h => h) (by rfl) ?_ hHeld ?_
        · intro w hSw; have h1 := I2.out; go_simp; (try with_reducible rfl)
        try simp only [Act.put, List.setIfInBounds_toArray, List.set_cons_zero, List.set_cons_succ]
        refine hTake 29 (v := (.int .i64 (q3 : Int))) rfl (by kernel_rfl) (by kernel_rfl) (by kernel_rfl) (fun _ _ _ h => h) (by rfl) ?_ hHeld ?_
        · intro w hSw; have h1 := I3.out; go_simp; (try with_reducible rfl)
        try simp only [Act.put, List.setIfInBounds_toArray, List.set_cons_zero, List.set_cons_succ]
        refine hTake 4 (v := ?_) rfl (by kernel_rfl) (by kernel_rfl) (by kernel_rfl) (fun _ _ _ h => h) (by rfl) ?_ hHeld ?_
        rotate_left
        · intro w hSw; (try dsimp only at hSw); go_simp; (try with_reducible rfl)
        try simp only [Act.put, List.setIfInBounds_toArray, List.set_cons_zero, List.set_cons_succ]
        refine hTake 12 (v := ?_) rfl (by kernel_rfl) (by kernel_rfl) (by kernel_rfl) (fun _ _ _ h => h) (by rfl) ?_ hHeld ?_
        rotate_left
        · intro w hSw; (try dsimp only at hSw); go_simp; (try with_reducible rfl)
        try simp only [Act.put, List.setIfInBounds_toArray, List.set_cons_zero, List.set_cons_succ]
        refine hTake 21 (v := ?_) rfl (by kernel_rfl) (by kernel_rfl) (by kernel_rfl) (fun _ _ _ h => h) (by rfl) ?_ hHeld ?_
        rotate_left
        · intro w hSw; (try dsimp only at hSw); go_simp; (try with_reducible rfl)
        try simp only [Act.put, List.setIfInBounds_toArray, List.set_cons_zero, List.set_cons_succ]
        refine hTake 30 (v := ?_) rfl (by kernel_rfl) (by kernel_rfl) (by kernel_rfl) (fun _ _ _ h => h) (by rfl) ?_ hHeld ?_
        rotate_left
        · intro w hSw; (try dsimp only at hSw); go_simp; (try with_reducible rfl)
        try simp only [Act.put, List.setIfInBounds_toArray, List.set_cons_zero, List.set_cons_succ]
        refine hTake 5 (v := (.int .u8 (d0 : Int))) rfl (by kernel_rfl) (by kernel_rfl) (by kernel_rfl) (fun _ _ _ h => h) (by rfl) ?_ hHeld ?_
        · intro w hSw; have h1 := C0.out w hSw; go_simp; (try with_reducible rfl)
        try simp only [Act.put, List.setIfInBounds_toArray, List.set_cons_zero, List.set_cons_succ]
        refine hTake 13 (v := (.int .u8 (d1 : Int))) rfl (by kernel_rfl) (by kernel_rfl) (by kernel_rfl) (fun _ _ _ h => h) (by rfl) ?_ hHeld ?_
        · intro w hSw; have h1 := C1.out w hSw; go_simp; (try with_reducible rfl)
        try simp only [Act.put, List.setIfInBounds_toArray, List.set_cons_zero, List.set_cons_succ]
        refine hTake 22 (v := (.int .u8 (d2 : Int))) rfl (by kernel_rfl) (by kernel_rfl) (by kernel_rfl) (fun _ _ _ h => h) (by rfl) ?_ hHeld ?_
        · intro w hSw; have h1 := C2.out w hSw; go_simp; (try with_reducible rfl)
        try simp only [Act.put, List.setIfInBounds_toArray, List.set_cons_zero, List.set_cons_succ]
        refine hTake 31 (v := (.int .u8 (d3 : Int))) rfl (by kernel_rfl) (by kernel_rfl) (by kernel_rfl) (fun _ _ _ h => h) (by rfl) ?_ hHeld ?_
        · intro w hSw; have h1 := C3.out w hSw; go_simp; (try with_reducible rfl)
        try simp only [Act.put, List.setIfInBounds_toArray, List.set_cons_zero, List.set_cons_succ]
        refine hTake 6 (v := (.int .u32 (d0 : Int))) rfl (by kernel_rfl) (by kernel_rfl) (by kernel_rfl) (fun _ _ _ h => h) (by rfl) ?_ hHeld ?_
        · intro w hSw; have h1 := W0.out; go_simp; (try with_reducible rfl)
        try simp only [Act.put, List.setIfInBounds_toArray, List.set_cons_zero, List.set_cons_succ]
        refine hTake 14 (v := (.int .u32 (d1 : Int))) rfl (by kernel_rfl) (by kernel_rfl) (by kernel_rfl) (fun _ _ _ h => h) (by rfl) ?_ hHeld ?_
        · intro w hSw; have h1 := W1.out; go_simp; (try with_reducible rfl)
        try simp only [Act.put, List.setIfInBounds_toArray, List.set_cons_zero, List.set_cons_succ]
        refine hTake 23 (v := (.int .u32 (d2 : Int))) rfl (by kernel_rfl) (by kernel_rfl) (by kernel_rfl) (fun _ _ _ h => h) (by rfl) ?_ hHeld ?_
        · intro w hSw; have h1 := W2.out; go_simp; (try with_reducible rfl)
        try simp only [Act.put, List.setIfInBounds_toArray, List.set_cons_zero, List.set_cons_succ]
        refine hTake 32 (v := (.int .u32 (d3 : Int))) rfl (by kernel_rfl) (by kernel_rfl) (by kernel_rfl) (fun _ _ _ h => h) (by rfl) ?_ hHeld ?_
        · intro w hSw; have h1 := W3.out; go_simp; (try with_reducible rfl)
        try simp only [Act.put, List.setIfInBounds_toArray, List.set_cons_zero, List.set_cons_succ]
        refine hTake 7 (v := (.int .u32 (s0 : Int))) rfl (by kernel_rfl) (by kernel_rfl) (by kernel_rfl) (fun _ _ _ h => h) (by rfl) ?_ hHeld ?_
        · intro w hSw; have h1 := S0.out; go_simp; (try with_reducible rfl)
        try simp only [Act.put, List.setIfInBounds_toArray, List.set_cons_zero, List.set_cons_succ]
        refine hTake 15 (v := (.int .u32 (s1 : Int))) rfl (by kernel_rfl) (by kernel_rfl) (by kernel_rfl) (fun _ _ _ h => h) (by rfl) ?_ hHeld ?_
        · intro w hSw; have h1 := S1.out; go_simp; (try with_reducible rfl)
        try simp only [Act.put, List.setIfInBounds_toArray, List.set_cons_zero, List.set_cons_succ]
        refine hTake 24 (v := (.int .u32 (s2 : Int))) rfl (by kernel_rfl) (by kernel_rfl) (by kernel_rfl) (fun _ _ _ h => h) (by rfl) ?_ hHeld ?_
        · intro w hSw; have h1 := S2.out; go_simp; (try with_reducible rfl)
        try simp only [Act.put, List.setIfInBounds_toArray, List.set_cons_zero, List.set_cons_succ]
        refine hTake 16 (v := (.int .u32 (u1 : Int))) rfl (by kernel_rfl) (by kernel_rfl) (by kernel_rfl) (fun _ _ _ h => h) (by rfl) ?_ hHeld ?_
        · intro w hSw; have h1 := O1.out; go_simp; (try with_reducible rfl)
        try simp only [Act.put, List.setIfInBounds_toArray, List.set_cons_zero, List.set_cons_succ]
        refine hTake 25 (v := (.int .u32 (u2 : Int))) rfl (by kernel_rfl) (by kernel_rfl) (by kernel_rfl) (fun _ _ _ h => h) (by rfl) ?_ hHeld ?_
        · intro w hSw; have h1 := O2.out; go_simp; (try with_reducible rfl)
        try simp only [Act.put, List.setIfInBounds_toArray, List.set_cons_zero, List.set_cons_succ]
        refine hTake 33 (v := (.int .u32 (u3 : Int))) rfl (by kernel_rfl) (by kernel_rfl) (by kernel_rfl) (fun _ _ _ h => h) (by rfl) ?_ hHeld ?_
        · intro w hSw; have h1 := O3.out; go_simp; (try with_reducible rfl)
        try simp only [Act.put, List.setIfInBounds_toArray, List.set_cons_zero, List.set_cons_succ]
        refine hTake 34 (v := ?_) rfl (by kernel_rfl) (by kernel_rfl) (by kernel_rfl) (fun _ _ _ h => h) (by rfl) ?_ hHeld ?_
        rotate_left
        · intro w hSw; (try dsimp only at hSw); go_simp; (try with_reducible rfl)
        try simp only [Act.put, List.setIfInBounds_toArray, List.set_cons_zero, List.set_cons_succ]
        refine hStep 35 rfl (by kernel_rfl) (by rfl) (fun K hK => ?_)
        have HK := Lib.hid hK
        clear hK
        go_simp
        have hKF : Kept (· = G + 1) wr (wr.setCell ⟨G + 1, k, none⟩ (.int .u32 (u3 : Int))).drew := (Kept.setCell (T := (· = G + 1)) _ _ _ rfl).trans (Kept.drew (· = G + 1) _) (fun i hi => .inl hi)
        have hHeldN := hKF
        refine HK.out _ _ hHeldN ?_
        clear HK K hHeld
        have hHeld := hHeldN
        clear hHeldN
        try simp only [Act.put, List.setIfInBounds_toArray, List.set_cons_zero, List.set_cons_succ]
        refine hDone (by kernel_rfl) ?_
        show NoPanic _ _ _ _
        refine NoPanic.normal ?_
        have hN := HNEXT.out (wr.setCell ⟨G + 1, k, none⟩ (.int .u32 (u3 : Int))).drew u3 HV.out rfl
        have hBF : Below w.heap.size w (wr.setCell ⟨G + 1, k, none⟩ (.int .u32 (u3 : Int))).drew := hbr.trans (hHeld.below hbr.size (fun z hz => by have := HG.out; omega))
        have HF := Lib.hid (And.intro hN hBF)
        clear hN hBF hHeld hck hfr
        go_wp2
        go_roundw
        case rel => exact ⟨k + 1, by omega, by go_num, HF.out.1.1, HF.out.1.2, HF.out.2⟩
        case measure => simp [intOf] <;> omega
      · have gv : ∀ j, j < k → wr.cell? ⟨G + 1, j, none⟩ = some (.int .u32 (((wordsTo b k).getD j 0 : Nat) : Int)) ∧ (wordsTo b k).getD j 0 < 4294967296 := fun j hj => by
          have h1 := HA.out.cell (j := j) (by rw [padW_len b k hk]; omega)
          rw [padW_at b k j hj] at h1
          exact ⟨h1, getD_lt32 (wordsTo_lt b k) j⟩
        have HWK : Hid (wordK b (wordsTo b k) k = ((wordsTo b k).getD (k - 16) 0 + sg0 ((wordsTo b k).getD (k - 15) 0) + (wordsTo b k).getD (k - 7) 0 + sg1 ((wordsTo b k).getD (k - 2) 0)) % 4294967296) := by show _ = _; unfold wordK; rw [if_neg h16]
        obtain ⟨c16, b16⟩ := gv (k - 16) (by omega)
        obtain ⟨c15, b15⟩ := gv (k - 15) (by omega)
        obtain ⟨c7, b7⟩ := gv (k - 7) (by omega)
        obtain ⟨c2, b2⟩ := gv (k - 2) (by omega)
        generalize (wordsTo b k).getD (k - 16) 0 = x16 at *
        generalize (wordsTo b k).getD (k - 15) 0 = x15 at *
        generalize (wordsTo b k).getD (k - 7) 0 = x7 at *
        generalize (wordsTo b k).getD (k - 2) 0 = x2 at *
        obtain ⟨j16, hj16⟩ : ∃ j, j = k - 16 := ⟨_, rfl⟩
        obtain ⟨j15, hj15⟩ : ∃ j, j = k - 15 := ⟨_, rfl⟩
        obtain ⟨j7, hj7⟩ : ∃ j, j = k - 7 := ⟨_, rfl⟩
        obtain ⟨j2, hj2⟩ : ∃ j, j = k - 2 := ⟨_, rfl⟩
        rw [← hj16] at c16
        rw [← hj15] at c15
        rw [← hj7] at c7
        rw [← hj2] at c2
        have I16 : Hid (IntKind.i64.wrap ((k : Int) - 16) = (j16 : Int)) := by show _ = _; rw [IntKind.wrap_i64]; omega
        have I15 : Hid (IntKind.i64.wrap ((k : Int) - 15) = (j15 : Int)) := by show _ = _; rw [IntKind.wrap_i64]; omega
        have I7 : Hid (IntKind.i64.wrap ((k : Int) - 7) = (j7 : Int)) := by show _ = _; rw [IntKind.wrap_i64]; omega
        have I2 : Hid (IntKind.i64.wrap ((k : Int) - 2) = (j2 : Int)) := by show _ = _; rw [IntKind.wrap_i64]; omega
        have n16 : (j16 : Int) < 64 := by omega
        have n15 : (j15 : Int) < 64 := by omega
        have n7 : (j7 : Int) < 64 := by omega
        have n2 : (j2 : Int) < 64 := by omega
        have hlt1 : G + 1 < wr.heap.size := HA.out.lt
        have C15 : Hid (∀ w', Below wr.heap.size wr w' → w'.cell? ⟨G + 1, j15, none⟩ = some (.int .u32 (x15 : Int))) := fun w' h => by rw [h.cell hlt1]; exact c15
        have C2 : Hid (∀ w', Below wr.heap.size wr w' → w'.cell? ⟨G + 1, j2, none⟩ = some (.int .u32 (x2 : Int))) := fun w' h => by rw [h.cell hlt1]; exact c2
        have HC16 := Lib.hid c16
        have HC7 := Lib.hid c7
        have e16 : j16 ≠ k := by omega
        have e7 : j7 ≠ k := by omega
        have E16 := Lib.hid e16
        have E7 := Lib.hid e7
        have T1 := Lib.hid (turn_any x15 7 · b15 (by omega) (by omega))
        have T2 := Lib.hid (turn_any x15 18 · b15 (by omega) (by omega))
        have T3 := Lib.hid (turn_any x2 17 · b2 (by omega) (by omega))
        have T4 := Lib.hid (turn_any x2 19 · b2 (by omega) (by omega))
        obtain ⟨y15, hy15⟩ : ∃ y, y = x15 / 8 := ⟨_, rfl⟩
        obtain ⟨y2, hy2⟩ : ∃ y, y = x2 / 1024 := ⟨_, rfl⟩
        have D15 : Hid ((x15 : Int) / 8 = (y15 : Int)) := by show _ = _; omega
        have D2 : Hid ((x2 : Int) / 1024 = (y2 : Int)) := by show _ = _; omega
        have r1 := rotN_lt b15 (n := 7) (by omega)
        have r2 := rotN_lt b15 (n := 18) (by omega)
        have r3 := rotN_lt b2 (n := 17) (by omega)
        have r4 := rotN_lt b2 (n := 19) (by omega)
        have X1 := Lib.hid (u32_xor_nat (rotN x15 7) (rotN x15 18) r1 r2)
        have X2 : Hid (bits BinOp.xor IntKind.u32 ((rotN x15 7 ^^^ rotN x15 18 : Nat) : Int) (y15 : Int) = ((sg0 x15 : Nat) : Int)) := by
          show _ = _
          rw [u32_xor_nat _ _ (xor_lt32 r1 r2) (by omega), hy15]; rfl
        have X3 := Lib.hid (u32_xor_nat (rotN x2 17) (rotN x2 19) r3 r4)
        have X4 : Hid (bits BinOp.xor IntKind.u32 ((rotN x2 17 ^^^ rotN x2 19 : Nat) : Int) (y2 : Int) = ((sg1 x2 : Nat) : Int)) := by
          show _ = _
          rw [u32_xor_nat _ _ (xor_lt32 r3 r4) (by omega), hy2]; rfl
        obtain ⟨v1, hv1⟩ : ∃ v, v = (x16 + sg0 x15) % 4294967296 := ⟨_, rfl⟩
        obtain ⟨v2, hv2⟩ : ∃ v, v = (v1 + x7) % 4294967296 := ⟨_, rfl⟩
        obtain ⟨v3, hv3⟩ : ∃ v, v = (v2 + sg1 x2) % 4294967296 := ⟨_, rfl⟩
        have A1 : Hid (IntKind.u32.wrap ((x16 : Int) + ((sg0 x15 : Nat) : Int)) = (v1 : Int)) := by show _ = _; rw [add32, hv1]
        have A2 : Hid (IntKind.u32.wrap ((v1 : Int) + (x7 : Int)) = (v2 : Int)) := by show _ = _; rw [add32, hv2]
        have A3 : Hid (IntKind.u32.wrap ((v2 : Int) + ((sg1 x2 : Nat) : Int)) = (v3 : Int)) := by show _ = _; rw [add32, hv3]
        have HV : Hid (v3 = wordK b (wordsTo b k) k) := by show _ = _; rw [HWK.out]; omega
        clear gv c16 c15 c7 c2 hj16 hj15 hj7 hj2 hy15 hy2 hv1 hv2 hv3 r1 r2 r3 r4 e16 e7
        go_wp2_with fail
        refine hStart (fun w' => Below wr.heap.size wr w') (by kernel_rfl) ?_
        have hHeld := (Below.refl wr.heap.size wr).drew
        refine hTake 0 (v := ?_) rfl (by kernel_rfl) (by kernel_rfl) (by kernel_rfl) (fun _ _ _ h => h) (by rfl) ?_ hHeld ?_
        rotate_left
        · intro w hSw; (try dsimp only at hSw); go_simp; (try with_reducible rfl)
        try simp only [Act.put, List.setIfInBounds_toArray, List.set_cons_zero, List.set_cons_succ]
        refine hTake 5 (v := ?_) rfl (by kernel_rfl) (by kernel_rfl) (by kernel_rfl) (fun _ _ _ h => h) (by rfl) ?_ hHeld ?_
        rotate_left
        · intro w hSw; (try dsimp only at hSw); go_simp; (try with_reducible rfl)
        try simp only [Act.put, List.setIfInBounds_toArray, List.set_cons_zero, List.set_cons_succ]
        refine hTake 11 (v := ?_) rfl (by kernel_rfl) (by kernel_rfl) (by kernel_rfl) (fun _ _ _ h => h) (by rfl) ?_ hHeld ?_
        rotate_left
        · intro w hSw; (try dsimp only at hSw); go_simp; (try with_reducible rfl)
        try simp only [Act.put, List.setIfInBounds_toArray, List.set_cons_zero, List.set_cons_succ]
        refine hTake 1 (v := (.int .i64 (j15 : Int))) rfl (by kernel_rfl) (by kernel_rfl) (by kernel_rfl) (fun _ _ _ h => h) (by rfl) ?_ hHeld ?_
        · intro w hSw; have h1 := I15.out; go_simp; (try with_reducible rfl)
        try simp only [Act.put, List.setIfInBounds_toArray, List.set_cons_zero, List.set_cons_succ]
        refine hTake 6 (v := (.int .i64 (j15 : Int))) rfl (by kernel_rfl) (by kernel_rfl) (by kernel_rfl) (fun _ _ _ h => h) (by rfl) ?_ hHeld ?_
        · intro w hSw; have h1 := I15.out; go_simp; (try with_reducible rfl)
        try simp only [Act.put, List.setIfInBounds_toArray, List.set_cons_zero, List.set_cons_succ]
        refine hTake 12 (v := (.int .i64 (j15 : Int))) rfl (by kernel_rfl) (by kernel_rfl) (by kernel_rfl) (fun _ _ _ h => h) (by rfl) ?_ hHeld ?_
        · intro w hSw; have h1 := I15.out; go_simp; (try with_reducible rfl)
        try simp only [Act.put, List.setIfInBounds_toArray, List.set_cons_zero, List.set_cons_succ]
        refine hTake 2 (v := ?_) rfl (by kernel_rfl) (by kernel_rfl) (by kernel_rfl) (fun _ _ _ h => h) (by rfl) ?_ hHeld ?_
        rotate_left
        · intro w hSw; (try dsimp only at hSw); go_simp; (try with_reducible rfl)
        try simp only [Act.put, List.setIfInBounds_toArray, List.set_cons_zero, List.set_cons_succ]
        refine hTake 7 (v := ?_) rfl (by kernel_rfl) (by kernel_rfl) (by kernel_rfl) (fun _ _ _ h => h) (by rfl) ?_ hHeld ?_
        rotate_left
        · intro w hSw; (try dsimp only at hSw); go_simp; (try with_reducible rfl)
        try simp only [Act.put, List.setIfInBounds_toArray, List.set_cons_zero, List.set_cons_succ]
        refine hTake 13 (v := ?_) rfl (by kernel_rfl) (by kernel_rfl) (by kernel_rfl) (fun _ _ _ h => h) (by rfl) ?_ hHeld ?_
        rotate_left
        · intro w hSw; (try dsimp only at hSw); go_simp; (try with_reducible rfl)
        try simp only [Act.put, List.setIfInBounds_toArray, List.set_cons_zero, List.set_cons_succ]
        refine hTake 3 (v := (.int .u32 (x15 : Int))) rfl (by kernel_rfl) (by kernel_rfl) (by kernel_rfl) (fun _ _ _ h => h) (by rfl) ?_ hHeld ?_
        · intro w hSw; have h1 := C15.out w hSw; go_simp; (try with_reducible rfl)
        try simp only [Act.put, List.setIfInBounds_toArray, List.set_cons_zero, List.set_cons_succ]
        refine hTake 8 (v := (.int .u32 (x15 : Int))) rfl (by kernel_rfl) (by kernel_rfl) (by kernel_rfl) (fun _ _ _ h => h) (by rfl) ?_ hHeld ?_
        · intro w hSw; have h1 := C15.out w hSw; go_simp; (try with_reducible rfl)
        try simp only [Act.put, List.setIfInBounds_toArray, List.set_cons_zero, List.set_cons_succ]
        refine hTake 14 (v := (.int .u32 (x15 : Int))) rfl (by kernel_rfl) (by kernel_rfl) (by kernel_rfl) (fun _ _ _ h => h) (by rfl) ?_ hHeld ?_
        · intro w hSw; have h1 := C15.out w hSw; go_simp; (try with_reducible rfl)
        try simp only [Act.put, List.setIfInBounds_toArray, List.set_cons_zero, List.set_cons_succ]
        refine hTake 15 (v := (.int .u32 (y15 : Int))) rfl (by kernel_rfl) (by kernel_rfl) (by kernel_rfl) (fun _ _ _ h => h) (by rfl) ?_ hHeld ?_
        · intro w hSw; have h1 := D15.out; go_simp; (try with_reducible rfl)
        try simp only [Act.put, List.setIfInBounds_toArray, List.set_cons_zero, List.set_cons_succ]
        refine hStep 4 rfl (by kernel_rfl) (by rfl) (fun K hK => ?_)
        have HK := Lib.hid hK
        clear hK
        go_simp
        refine (T1.out _).mono ?_
        rintro e1 w3 ⟨rfl, rfl⟩
        have hHeldN := hHeld.drew
        refine HK.out _ _ hHeldN ?_
        clear HK K hHeld
        have hHeld := hHeldN
        clear hHeldN
        try simp only [Act.put, List.setIfInBounds_toArray, List.set_cons_zero, List.set_cons_succ]
        refine hStep 9 rfl (by kernel_rfl) (by rfl) (fun K hK => ?_)
        have HK := Lib.hid hK
        clear hK
        go_simp
        refine (T2.out _).mono ?_
        rintro e1 w3 ⟨rfl, rfl⟩
        have hHeldN := hHeld.drew
        refine HK.out _ _ hHeldN ?_
        clear HK K hHeld
        have hHeld := hHeldN
        clear hHeldN
        try simp only [Act.put, List.setIfInBounds_toArray, List.set_cons_zero, List.set_cons_succ]
        refine hTake 10 (v := (.int .u32 ((rotN x15 7 ^^^ rotN x15 18 : Nat) : Int))) rfl (by kernel_rfl) (by kernel_rfl) (by kernel_rfl) (fun _ _ _ h => h) (by rfl) ?_ hHeld ?_
        · intro w hSw; have h1 := X1.out; go_simp; (try with_reducible rfl)
        try simp only [Act.put, List.setIfInBounds_toArray, List.set_cons_zero, List.set_cons_succ]
        refine hTake 16 (v := (.int .u32 ((sg0 x15 : Nat) : Int))) rfl (by kernel_rfl) (by kernel_rfl) (by kernel_rfl) (fun _ _ _ h => h) (by rfl) ?_ hHeld ?_
        · intro w hSw; have h1 := X2.out; go_simp; (try with_reducible rfl)
        try simp only [Act.put, List.setIfInBounds_toArray, List.set_cons_zero, List.set_cons_succ]
        refine hTake 17 (v := ?_) rfl (by kernel_rfl) (by kernel_rfl) (by kernel_rfl) (fun _ _ _ h => h) (by rfl) ?_ hHeld ?_
        rotate_left
        · intro w hSw; (try dsimp only at hSw); go_simp; (try with_reducible rfl)
        try simp only [Act.put, List.setIfInBounds_toArray, List.set_cons_zero, List.set_cons_succ]
        refine hDone (by kernel_rfl) ?_
        show NoPanic _ _ _ _
        refine NoPanic.normal ?_
        have hBx := hHeld
        go_wp2_with fail
        refine hStart (fun w' => Below wr.heap.size wr w') (by kernel_rfl) ?_
        have hHeld := hBx.drew
        refine hTake 0 (v := ?_) rfl (by kernel_rfl) (by kernel_rfl) (by kernel_rfl) (fun _ _ _ h => h) (by rfl) ?_ hHeld ?_
        rotate_left
        · intro w hSw; (try dsimp only at hSw); go_simp; (try with_reducible rfl)
        try simp only [Act.put, List.setIfInBounds_toArray, List.set_cons_zero, List.set_cons_succ]
        refine hTake 5 (v := ?_) rfl (by kernel_rfl) (by kernel_rfl) (by kernel_rfl) (fun _ _ _ h => h) (by rfl) ?_ hHeld ?_
        rotate_left
        · intro w hSw; (try dsimp only at hSw); go_simp; (try with_reducible rfl)
        try simp only [Act.put, List.setIfInBounds_toArray, List.set_cons_zero, List.set_cons_succ]
        refine hTake 11 (v := ?_) rfl (by kernel_rfl) (by kernel_rfl) (by kernel_rfl) (fun _ _ _ h => h) (by rfl) ?_ hHeld ?_
        rotate_left
        · intro w hSw; (try dsimp only at hSw); go_simp; (try with_reducible rfl)
        try simp only [Act.put, List.setIfInBounds_toArray, List.set_cons_zero, List.set_cons_succ]
        refine hTake 1 (v := (.int .i64 (j2 : Int))) rfl (by kernel_rfl) (by kernel_rfl) (by kernel_rfl) (fun _ _ _ h => h) (by rfl) ?_ hHeld ?_
        · intro w hSw; have h1 := I2.out; go_simp; (try with_reducible rfl)
        try simp only [Act.put, List.setIfInBounds_toArray, List.set_cons_zero, List.set_cons_succ]
        refine hTake 6 (v := (.int .i64 (j2 : Int))) rfl (by kernel_rfl) (by kernel_rfl) (by kernel_rfl) (fun _ _ _ h => h) (by rfl) ?_ hHeld ?_
        · intro w hSw; have h1 := I2.out; go_simp; (try with_reducible rfl)
        try simp only [Act.put, List.setIfInBounds_toArray, List.set_cons_zero, List.set_cons_succ]
        refine hTake 12 (v := (.int .i64 (j2 : Int))) rfl (by kernel_rfl) (by kernel_rfl) (by kernel_rfl) (fun _ _ _ h => h) (by rfl) ?_ hHeld ?_
        · intro w hSw; have h1 := I2.out; go_simp; (try with_reducible rfl)
        try simp only [Act.put, List.setIfInBounds_toArray, List.set_cons_zero, List.set_cons_succ]
        refine hTake 2 (v := ?_) rfl (by kernel_rfl) (by kernel_rfl) (by kernel_rfl) (fun _ _ _ h => h) (by rfl) ?_ hHeld ?_
        rotate_left
        · intro w hSw; (try dsimp only at hSw); go_simp; (try with_reducible rfl)
        try simp only [Act.put, List.setIfInBounds_toArray, List.set_cons_zero, List.set_cons_succ]
        refine hTake 7 (v := ?_) rfl (by kernel_rfl) (by kernel_rfl) (by kernel_rfl) (fun _ _ _ h => h) (by rfl) ?_ hHeld ?_
        rotate_left
        · intro w hSw; (try dsimp only at hSw); go_simp; (try with_reducible rfl)
        try simp only [Act.put, List.setIfInBounds_toArray, List.set_cons_zero, List.set_cons_succ]
        refine hTake 13 (v := ?_) rfl (by kernel_rfl) (by kernel_rfl) (by kernel_rfl) (fun _ _ _ h => h) (by rfl) ?_ hHeld ?_
        rotate_left
        · intro w hSw; (try dsimp only at hSw); go_simp; (try with_reducible rfl)
        try simp only [Act.put, List.setIfInBounds_toArray, List.set_cons_zero, List.set_cons_succ]
        refine hTake 3 (v := (.int .u32 (x2 : Int))) rfl (by kernel_rfl) (by kernel_rfl) (by kernel_rfl) (fun _ _ _ h => h) (by rfl) ?_ hHeld ?_
        · intro w hSw; have h1 := C2.out w hSw; go_simp; (try with_reducible rfl)
        try simp only [Act.put, List.setIfInBounds_toArray, List.set_cons_zero, List.set_cons_succ]
        refine hTake 8 (v := (.int .u32 (x2 : Int))) rfl (by kernel_rfl) (by kernel_rfl) (by kernel_rfl) (fun _ _ _ h => h) (by rfl) ?_ hHeld ?_
        · intro w hSw; have h1 := C2.out w hSw; go_simp; (try with_reducible rfl)
        try simp only [Act.put, List.setIfInBounds_toArray, List.set_cons_zero, List.set_cons_succ]
        refine hTake 14 (v := (.int .u32 (x2 : Int))) rfl (by kernel_rfl) (by kernel_rfl) (by kernel_rfl) (fun _ _ _ h => h) (by rfl) ?_ hHeld ?_
        · intro w hSw; have h1 := C2.out w hSw; go_simp; (try with_reducible rfl)
        try simp only [Act.put, List.setIfInBounds_toArray, List.set_cons_zero, List.set_cons_succ]
        refine hTake 15 (v := (.int .u32 (y2 : Int))) rfl (by kernel_rfl) (by kernel_rfl) (by kernel_rfl) (fun _ _ _ h => h) (by rfl) ?_ hHeld ?_
        · intro w hSw; have h1 := D2.out; go_simp; (try with_reducible rfl)
        try simp only [Act.put, List.setIfInBounds_toArray, List.set_cons_zero, List.set_cons_succ]
        refine hStep 4 rfl (by kernel_rfl) (by rfl) (fun K hK => ?_)
        have HK := Lib.hid hK
        clear hK
        go_simp
        refine (T3.out _).mono ?_
        rintro e1 w3 ⟨rfl, rfl⟩
        have hHeldN := hHeld.drew
        refine HK.out _ _ hHeldN ?_
        clear HK K hHeld
        have hHeld := hHeldN
        clear hHeldN
        try simp only [Act.put, List.setIfInBounds_toArray, List.set_cons_zero, List.set_cons_succ]
        refine hStep 9 rfl (by kernel_rfl) (by rfl) (fun K hK => ?_)
        have HK := Lib.hid hK
        clear hK
        go_simp
        refine (T4.out _).mono ?_
        rintro e1 w3 ⟨rfl, rfl⟩
        have hHeldN := hHeld.drew
        refine HK.out _ _ hHeldN ?_
        clear HK K hHeld
        have hHeld := hHeldN
        clear hHeldN
        try simp only [Act.put, List.setIfInBounds_toArray, List.set_cons_zero, List.set_cons_succ]
        refine hTake 10 (v := (.int .u32 ((rotN x2 17 ^^^ rotN x2 19 : Nat) : Int))) rfl (by kernel_rfl) (by kernel_rfl) (by kernel_rfl) (fun _ _ _ h => h) (by rfl) ?_ hHeld ?_
        · intro w hSw; have h1 := X3.out; go_simp; (try with_reducible rfl)
        try simp only [Act.put, List.setIfInBounds_toArray, List.set_cons_zero, List.set_cons_succ]
        refine hTake 16 (v := (.int .u32 ((sg1 x2 : Nat) : Int))) rfl (by kernel_rfl) (by kernel_rfl) (by kernel_rfl) (fun _ _ _ h => h) (by rfl) ?_ hHeld ?_
        · intro w hSw; have h1 := X4.out; go_simp; (try with_reducible rfl)
        try simp only [Act.put, List.setIfInBounds_toArray, List.set_cons_zero, List.set_cons_succ]
        refine hTake 17 (v := ?_) rfl (by kernel_rfl) (by kernel_rfl) (by kernel_rfl) (fun _ _ _ h => h) (by rfl) ?_ hHeld ?_
        rotate_left
        · intro w hSw; (try dsimp only at hSw); go_simp; (try with_reducible rfl)
        try simp only [Act.put, List.setIfInBounds_toArray, List.set_cons_zero, List.set_cons_succ]
        refine hDone (by kernel_rfl) ?_
        show NoPanic _ _ _ _
        refine NoPanic.normal ?_
        have hBy := hHeld
        clear hHeld hBx
        obtain ⟨w5, hw5⟩ : ∃ w5, w5 = wr.drew.drew.drew.drew.drew.drew := ⟨_, rfl⟩
        have HB5 : Hid (Below wr.heap.size wr w5) := by show Below _ _ _; rw [hw5]; exact hBy
        have HEQ : Hid (w5.heap = wr.heap) := by show _ = _; rw [hw5]; rfl
        rw [← hw5]
        clear hw5 hBy
        have c16 : w5.cell? ⟨G + 1, j16, none⟩ = some (.int .u32 (x16 : Int)) := by rw [HB5.out.cell hlt1]; exact HC16.out
        have c7 : w5.cell? ⟨G + 1, j7, none⟩ = some (.int .u32 (x7 : Int)) := by rw [HB5.out.cell hlt1]; exact HC7.out
        have ck : w5.cell? ⟨G + 1, k, none⟩ = some (.int .u32 (old : Int)) := by rw [HB5.out.cell hlt1]; exact hck
        have fk : w5.frozen? ⟨G + 1, k, none⟩ = false := by rw [HB5.out.frozen hlt1]; exact hfr
        clear hck hfr
        have HA5 : Hid (ArrAt 46 w5 (G + 1) (padW b k)) := by show w5.heap[G + 1]? = _; rw [HEQ.out]; exact HA.out
        have c16' : ∀ w' : World, w'.cell? ⟨G + 1, j16, none⟩ = some (.int .u32 (x16 : Int)) ∧ w'.cell? ⟨G + 1, j7, none⟩ = some (.int .u32 (x7 : Int)) → w'.cell? ⟨G + 1, j16, none⟩ = some (.int .u32 (x16 : Int)) := fun w' h => h.1
        have CC := Lib.hid (And.intro c16 c7)
        clear c16 c7 c16'
        go_wp2_with fail
        refine hStart (fun w' => w'.cell? ⟨G + 1, j16, none⟩ = some (.int .u32 (x16 : Int)) ∧ w'.cell? ⟨G + 1, j7, none⟩ = some (.int .u32 (x7 : Int))) (by kernel_rfl) ?_
        have hHeld : w5.drew.cell? ⟨G + 1, j16, none⟩ = some (.int .u32 (x16 : Int)) ∧ w5.drew.cell? ⟨G + 1, j7, none⟩ = some (.int .u32 (x7 : Int)) := CC.out
        refine hTake 0 (v := ?_) rfl (by kernel_rfl) (by kernel_rfl) (by kernel_rfl) (fun _ _ _ h => h) (by rfl) ?_ hHeld ?_
        rotate_left
        · intro w hSw; (try dsimp only at hSw); go_simp; (try with_reducible rfl)
        try simp only [Act.put, List.setIfInBounds_toArray, List.set_cons_zero, List.set_cons_succ]
        refine hTake 1 (v := ?_) rfl (by kernel_rfl) (by kernel_rfl) (by kernel_rfl) (fun _ _ _ h => h) (by rfl) ?_ hHeld ?_
        rotate_left
        · intro w hSw; (try dsimp only at hSw); go_simp; (try with_reducible rfl)
        try simp only [Act.put, List.setIfInBounds_toArray, List.set_cons_zero, List.set_cons_succ]
        refine hTake 5 (v := ?_) rfl (by kernel_rfl) (by kernel_rfl) (by kernel_rfl) (fun _ _ _ h => h) (by rfl) ?_ hHeld ?_
        rotate_left
        · intro w hSw; (try dsimp only at hSw); go_simp; (try with_reducible rfl)
        try simp only [Act.put, List.setIfInBounds_toArray, List.set_cons_zero, List.set_cons_succ]
        refine hTake 7 (v := ?_) rfl (by kernel_rfl) (by kernel_rfl) (by kernel_rfl) (fun _ _ _ h => h) (by rfl) ?_ hHeld ?_
        rotate_left
        · intro w hSw; (try dsimp only at hSw); go_simp; (try with_reducible rfl)
        try simp only [Act.put, List.setIfInBounds_toArray, List.set_cons_zero, List.set_cons_succ]
        refine hTake 12 (v := ?_) rfl (by kernel_rfl) (by kernel_rfl) (by kernel_rfl) (fun _ _ _ h => h) (by rfl) ?_ hHeld ?_
        rotate_left
        · intro w hSw; (try dsimp only at hSw); go_simp; (try with_reducible rfl)
        try simp only [Act.put, List.setIfInBounds_toArray, List.set_cons_zero, List.set_cons_succ]
        refine hTake 2 (v := (.int .i64 (j16 : Int))) rfl (by kernel_rfl) (by kernel_rfl) (by kernel_rfl) (fun _ _ _ h => h) (by rfl) ?_ hHeld ?_
        · intro w hSw; have h1 := I16.out; go_simp; (try with_reducible rfl)
        try simp only [Act.put, List.setIfInBounds_toArray, List.set_cons_zero, List.set_cons_succ]
        refine hTake 8 (v := (.int .i64 (j7 : Int))) rfl (by kernel_rfl) (by kernel_rfl) (by kernel_rfl) (fun _ _ _ h => h) (by rfl) ?_ hHeld ?_
        · intro w hSw; have h1 := I7.out; go_simp; (try with_reducible rfl)
        try simp only [Act.put, List.setIfInBounds_toArray, List.set_cons_zero, List.set_cons_succ]
        refine hTake 3 (v := ?_) rfl (by kernel_rfl) (by kernel_rfl) (by kernel_rfl) (fun _ _ _ h => h) (by rfl) ?_ hHeld ?_
        rotate_left
        · intro w hSw; (try dsimp only at hSw); go_simp; (try with_reducible rfl)
        try simp only [Act.put, List.setIfInBounds_toArray, List.set_cons_zero, List.set_cons_succ]
        refine hTake 9 (v := ?_) rfl (by kernel_rfl) (by kernel_rfl) (by kernel_rfl) (fun _ _ _ h => h) (by rfl) ?_ hHeld ?_
        rotate_left
        · intro w hSw; (try dsimp only at hSw); go_simp; (try with_reducible rfl)
        try simp only [Act.put, List.setIfInBounds_toArray, List.set_cons_zero, List.set_cons_succ]
        refine hTake 4 (v := (.int .u32 (x16 : Int))) rfl (by kernel_rfl) (by kernel_rfl) (by kernel_rfl) (fun _ _ _ h => h) (by rfl) ?_ hHeld ?_
        · intro w hSw; have h1 := hSw.1; go_simp; (try with_reducible rfl)
        try simp only [Act.put, List.setIfInBounds_toArray, List.set_cons_zero, List.set_cons_succ]
        refine hTake 10 (v := (.int .u32 (x7 : Int))) rfl (by kernel_rfl) (by kernel_rfl) (by kernel_rfl) (fun _ _ _ h => h) (by rfl) ?_ hHeld ?_
        · intro w hSw; have h1 := hSw.2; go_simp; (try with_reducible rfl)
        try simp only [Act.put, List.setIfInBounds_toArray, List.set_cons_zero, List.set_cons_succ]
        refine hTake 6 (v := (.int .u32 (v1 : Int))) rfl (by kernel_rfl) (by kernel_rfl) (by kernel_rfl) (fun _ _ _ h => h) (by rfl) ?_ hHeld ?_
        · intro w hSw; have h1 := A1.out; go_simp; (try with_reducible rfl)
        try simp only [Act.put, List.setIfInBounds_toArray, List.set_cons_zero, List.set_cons_succ]
        refine hTake 11 (v := (.int .u32 (v2 : Int))) rfl (by kernel_rfl) (by kernel_rfl) (by kernel_rfl) (fun _ _ _ h => h) (by rfl) ?_ hHeld ?_
        · intro w hSw; have h1 := A2.out; go_simp; (try with_reducible rfl)
        try simp only [Act.put, List.setIfInBounds_toArray, List.set_cons_zero, List.set_cons_succ]
        refine hTake 13 (v := (.int .u32 (v3 : Int))) rfl (by kernel_rfl) (by kernel_rfl) (by kernel_rfl) (fun _ _ _ h => h) (by rfl) ?_ hHeld ?_
        · intro w hSw; have h1 := A3.out; go_simp; (try with_reducible rfl)
        try simp only [Act.put, List.setIfInBounds_toArray, List.set_cons_zero, List.set_cons_succ]
        refine hTake 14 (v := ?_) rfl (by kernel_rfl) (by kernel_rfl) (by kernel_rfl) (fun _ _ _ h => h) (by rfl) ?_ hHeld ?_
        rotate_left
        · intro w hSw; (try dsimp only at hSw); go_simp; (try with_reducible rfl)
        try simp only [Act.put, List.setIfInBounds_toArray, List.set_cons_zero, List.set_cons_succ]
        refine hStep 15 rfl (by kernel_rfl) (by rfl) (fun K hK => ?_)
        have HK := Lib.hid hK
        clear hK
        go_simp
        have hq : (w5.setCell ⟨G + 1, k, none⟩ (.int .u32 (v3 : Int))).drew.cell? ⟨G + 1, j16, none⟩ = some (.int .u32 (x16 : Int)) ∧ (w5.setCell ⟨G + 1, k, none⟩ (.int .u32 (v3 : Int))).drew.cell? ⟨G + 1, j7, none⟩ = some (.int .u32 (x7 : Int)) :=
          ⟨(cell_set_ne HA5.out j16 k E16.out v3).trans CC.out.1, (cell_set_ne HA5.out j7 k E7.out v3).trans CC.out.2⟩
        have hHeldN := hq
        refine HK.out _ _ hHeldN ?_
        clear HK K hHeld
        have hHeld := hHeldN
        clear hHeldN
        try simp only [Act.put, List.setIfInBounds_toArray, List.set_cons_zero, List.set_cons_succ]
        refine hDone (by kernel_rfl) ?_
        show NoPanic _ _ _ _
        refine NoPanic.normal ?_
        have hN := HNEXT.out (w5.setCell ⟨G + 1, k, none⟩ (.int .u32 (v3 : Int))).drew v3 HV.out (by
          show (w5.setCell _ _).heap = (wr.setCell _ _).heap
          simp only [World.setCell, HEQ.out])
        have hKF : Kept (· = G + 1) w5 (w5.setCell ⟨G + 1, k, none⟩ (.int .u32 (v3 : Int))).drew := (Kept.setCell (T := (· = G + 1)) _ _ _ rfl).trans (Kept.drew (· = G + 1) _) (fun i hi => .inl hi)
        have hb5 := hbr.trans (HB5.out.mono hbr.size)
        have hBF : Below w.heap.size w (w5.setCell ⟨G + 1, k, none⟩ (.int .u32 (v3 : Int))).drew := hb5.trans (hKF.below hb5.size (fun z hz => by have := HG.out; omega))
        have HF := Lib.hid (And.intro hN hBF)
        clear hN hBF hKF hHeld hq ck fk
        go_wp2
        go_roundw
        case rel => exact ⟨k + 1, by omega, by go_num, HF.out.1.1, HF.out.1.2, HF.out.2⟩
        case measure => simp [intOf] <;> omega
    · obtain rfl : k = 64 := by omega
      have HE : Hid (ArrAt 46 wr (G + 1) (wordsN b)) := by show ArrAt _ _ _ _; rw [← padW_end]; exact HA.out
      have HL : Hid ((wordsN b).length = 64) := wordsTo_len b 64
      go_wp2_with (first
        | (with_reducible refine wpList_load_arr (T := 46) under_64 info_64 rfl (.tmp 3) rfl rfl HL.out HE.out ?_)
        | (with_reducible refine wpList_store_arr (T := 46) (n := 64) info_64 rfl (.tmp 2) (.tmp 97) rfl rfl (wordsN b) rfl z64_len HL.out HA0.out ?_))
      refine bodyPost_ret (results_arr (T := 46) under_64 info_64 rfl _ rfl HL.out (HA0.out.row (wordsN b))) rfl ⟨rfl, ?_⟩
      exact below_setRow hbr (by have := HG.out; omega) _
end Go.Proofs.Ytegeglnfpddgfaa
