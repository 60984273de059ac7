/- The walk of the document's words. -/
import Derived.Test.YtegeglnfpddgfaaShaRTurn
namespace Go.Proofs.Ytegeglnfpddgfaa
open Go.RowKit

/-- make([]uint32, 64). -/
theorem wpList_make64 {w : World} {ops : Array Oper} {rest : List Oper} {o : Oper} {a : Act} {Q : Exit → Act → World → Prop} (hgd : o.guard = none) (lo co : Operand)
    (ho : o.op = Op.makeSlice 51 lo co) (hl : a.eval lo = .int .i64 64) (hc : a.eval co = .int .i64 64) (G : Nat) (hG : G = w.heap.size)
    (h : ∀ w', Hid (ArrAt 28 w' G z64) → Below w.heap.size w w' →
      wpList Try.prog ops Q rest (a.put o.dst (.slice (some ⟨G, 0, none⟩) 64 64)) w') : wpList Try.prog ops Q (o :: rest) a w := by
  subst hG
  obtain ⟨i0, hi, hz0, hz1, hz2⟩ := info_parts info_u32
  refine wpList_make_full w hgd lo co 51 ho w.heap.size 28 i0 (.int .u32 0) 1 Try.underlying51 hi hz0 hz1 .i64 .i64 64 64 64 hl hc rfl rfl (by rw [hz2]; omega) (by unfold maxLen; omega) (Nat.le_refl _) ?_
  intro w' h1 h2
  refine h w' ?_ ((Below.refl _ _).grown h2 (Nat.le_refl _) (by simp))
  show w'.heap[w.heap.size]? = _
  rw [show (Value.int .u32 0).cells = #[Value.int .u32 0] from rfl, Nat.mul_one, toList_madeCells_one] at h1
  rcases h1.2 with ⟨hv, _⟩ | ⟨g', cap', cur, hv, hbg, hg, k1, k2, k3, k4⟩
  · cases hv
  · cases hv
    rw [hg]
    congr 2
    apply Array.ext'
    have hs : cur.toList.length = 64 := by rw [Array.length_toList, k3]
    rw [← List.take_of_length_le (l := cur.toList) (i := 64) (by omega)]
    have := k4
    simp only [Nat.mul_one] at this
    rw [this]
    rfl

/-- The first j bytes of word k. -/
def partN (b : List UInt8) (k : Nat) : Nat → Nat
  | 0 => 0
  | j + 1 => partN b k j * 256 + (b.getD (4 * k + j) 0).toNat
theorem partN_4 (b : List UInt8) (k : Nat) : partN b k 4 = word0 b k := by
  unfold word0
  simp only [partN]
  rw [Nat.add_zero]; omega
theorem partN_lt (b : List UInt8) (k : Nat) : ∀ j, partN b k j < 256 ^ j
  | 0 => by simp [partN]
  | j + 1 => by
    have h1 := partN_lt b k j
    have h2 := (b.getD (4 * k + j) 0).toNat_lt
    simp only [partN, Nat.pow_succ]; omega
def padP (b : List UInt8) (k j : Nat) : List Nat := (padW b k).set k (partN b k j)
theorem padP_0 (b : List UInt8) {k : Nat} (hk : k < 64) : padP b k 0 = padW b k := by
  unfold padP padW partN
  rw [List.set_append_right _ _ (by rw [wordsTo_len]; exact Nat.le_refl _), wordsTo_len, Nat.sub_self, show 64 - k = (64 - (k + 1)) + 1 by omega, List.replicate_succ, List.set_cons_zero]
theorem padP_4 (b : List UInt8) {k : Nat} (hk : k < 16) : padP b k 4 = padW b (k + 1) := by
  rw [← padW_set b k (by omega)]
  unfold padP
  rw [partN_4]
  unfold wordK
  rw [if_pos hk]
theorem padP_set (b : List UInt8) (k j : Nat) : (padP b k j).set k (partN b k (j + 1)) = padP b k (j + 1) := by
  unfold padP; rw [List.set_set]
theorem padP_len (b : List UInt8) {k : Nat} (hk : k ≤ 64) (j : Nat) : (padP b k j).length = 64 := by unfold padP; rw [List.length_set, padW_len b k hk]
theorem padP_at (b : List UInt8) {k : Nat} (hk : k < 64) (j : Nat) : (padP b k j).getD k 0 = partN b k j := by
  unfold padP
  have : k < (padW b k).length := by rw [padW_len b k (by omega)]; exact hk
  simp [List.getD, this]

set_option maxRecDepth 100000 in
set_option maxHeartbeats 8000000 in
theorem refWords_any (a : Option Addr) (b : List UInt8) (n cap : Nat) (w : World) (hn : n = b.length) (hn64 : n = 64) (hb : Bs w a cap b) :
    Calls Try.prog 27 #[.slice a n cap] w fun e w' => e = .returned (.slice (some ⟨w.heap.size, 0, none⟩) 64 64) ∧ ArrAt 28 w' w.heap.size (wordsN b) ∧ Below w.heap.size w w' := by
  have HN := Lib.hid hn
  have HB := Lib.hid hb
  have hnle : n ≤ 64 := by omega
  have hnge : 64 ≤ n := by omega
  clear hn hb hn64
  obtain ⟨G, hG⟩ : ∃ G, G = w.heap.size := ⟨_, rfl⟩
  rw [← hG]
  have HG := Lib.hid hG
  clear hG
  go_enter Try.func27, Try.ntmps27
  go_wp2_with (refine wpList_make64 rfl (.const (.int .i64 64)) (.const (.int .i64 64)) rfl rfl rfl G HG.out ?_; intro w1 hat1 hb1)
  rw [← HG.out] at hb1
  have HAT1 : Hid (ArrAt 28 w1 G z64) := hat1
  have HB1 := Lib.hid hb1
  clear hat1 hb1
  go_loopw [4, 5] (fun i _ wr => ∃ k : Nat, k ≤ 16 ∧ i = .int .i64 (k : Int) ∧ ArrAt 28 wr G (padW b k) ∧ Below G w wr) (fun i _ _ => 16 - (intOf i).toNat)
  case atStart => exact ⟨0, Nat.zero_le _, rfl, HAT1.out, HB1.out⟩
  case round =>
    clear HAT1 HB1
    obtain ⟨k, hk, rfl, hat, hbr⟩ := hrel
    have HA := Lib.hid hat
    have HBR := Lib.hid hbr
    clear hat hbr
    by_cases h16 : k < 16
    · go_wp2_with fail
      rw [show decide ((k : Int) < 16) = true from decide_eq_true (by omega)]
      go_loopw [5] (fun j wr => ∃ m : Nat, m ≤ 4 ∧ j = .int .i64 (m : Int) ∧ ArrAt 28 wr G (padP b k m) ∧ Below G w wr) (fun j _ => 4 - (intOf j).toNat)
      case atStart => exact ⟨0, Nat.zero_le _, rfl, by rw [padP_0 b (by omega)]; exact HA.out, HBR.out⟩
      case round =>
        clear HA HBR
        obtain ⟨m, hm, rfl, hat, hbr⟩ := hrel
        have HA := Lib.hid hat
        have HBR := Lib.hid hbr
        clear hat hbr
        by_cases hlt : m < 4
        · have hszr : G ≤ wr.heap.size := by have := HG.out; have := HBR.out.size; omega
          have hk64 : (k : Int) < 64 := by omega
          have hfr := HA.out.free k
          have hck := HA.out.cell (j := k) (by rw [padP_len b (by omega)]; omega)
          rw [padP_at b (by omega)] at hck
          have hPl : partN b k m < 16777216 := Nat.lt_of_lt_of_le (partN_lt b k m) (Nat.pow_le_pow_right (n := 256) (by omega) (show m ≤ 3 by omega))
          have HSET := Lib.hid (padP_set b k m)
          have HPN : Hid (partN b k (m + 1) = partN b k m * 256 + (b.getD (4 * k + m) 0).toNat) := Lib.hid rfl
          obtain ⟨b0, off, rfl, hc0, hbl⟩ := HB.out.at (k := 4 * k + m) (by have := HN.out; omega)
          have hdl : (b.getD (4 * k + m) 0).toNat < 256 := (b.getD (4 * k + m) 0).toNat_lt
          generalize (b.getD (4 * k + m) 0).toNat = d at *
          generalize partN b k m = P at *
          obtain ⟨q, hq⟩ : ∃ q, q = 4 * k := ⟨_, rfl⟩
          obtain ⟨q1, hq1⟩ : ∃ q1, q1 = q + m := ⟨_, rfl⟩
          rw [← hq, ← hq1] at hc0
          have C0 : Hid (∀ w', Kept (· = G) wr w' → w'.cell? ⟨b0, off + q1, none⟩ = some (.int .u8 (d : Int))) := fun w' h => by
            rw [(HBR.out.trans (h.below hszr (fun z hz => by omega))).cell (p := ⟨b0, off + q1, none⟩) (by have := HG.out; show b0 < G; omega)]; exact hc0
          have I0 : Hid (IntKind.i64.wrap (4 * (k : Int)) = (q : Int)) := by show _ = _; rw [IntKind.wrap_i64]; omega
          have I1 : Hid (IntKind.i64.wrap ((q : Int) + (m : Int)) = (q1 : Int)) := by show _ = _; rw [IntKind.wrap_i64]; omega
          obtain ⟨P2, hP2⟩ : ∃ P2, P2 = P * 256 := ⟨_, rfl⟩
          obtain ⟨u, hu⟩ : ∃ u, u = P2 + d := ⟨_, rfl⟩
          have M0 : Hid (IntKind.u32.wrap ((P : Int) * 256) = (P2 : Int)) := by show _ = _; rw [IntKind.wrap_u32']; omega
          have W0 : Hid (IntKind.u32.wrap (d : Int) = (d : Int)) := by show _ = _; rw [IntKind.wrap_u32']; omega
          have A0 : Hid (IntKind.u32.wrap ((P2 : Int) + (d : Int)) = (u : Int)) := by show _ = _; rw [IntKind.wrap_u32']; omega
          have HU : Hid (u = partN b k (m + 1)) := by show _ = _; rw [HPN.out]; omega
          have hql : q1 < n := by omega
          clear hq hq1 hP2 hu hc0
          go_wp2_with fail
          refine hStart (fun w' => Kept (· = G) wr w') (by kernel_rfl) ?_
          have hHeld := Kept.drew (· = G) wr
          refine hTake 0 (v := ?_) rfl (by kernel_rfl) (by kernel_rfl) (by kernel_rfl) (fun _ _ _ h => h) (by rfl) ?_ hHeld ?_
          rotate_left
          · intro w hSw; (try dsimp only at hSw); go_simp; (try with_reducible rfl)
          try simp only [Act.put, List.setIfInBounds_toArray, List.set_cons_zero, List.set_cons_succ]
          refine hTake 1 (v := ?_) rfl (by kernel_rfl) (by kernel_rfl) (by kernel_rfl) (fun _ _ _ h => h) (by rfl) ?_ hHeld ?_
          rotate_left
          · intro w hSw; (try dsimp only at hSw); go_simp; (try with_reducible rfl)
          try simp only [Act.put, List.setIfInBounds_toArray, List.set_cons_zero, List.set_cons_succ]
          refine hTake 2 (v := ?_) rfl (by kernel_rfl) (by kernel_rfl) (by kernel_rfl) (fun _ _ _ h => h) (by rfl) ?_ hHeld ?_
          rotate_left
          · intro w hSw; (try dsimp only at hSw); go_simp; (try with_reducible rfl)
          try simp only [Act.put, List.setIfInBounds_toArray, List.set_cons_zero, List.set_cons_succ]
          refine hTake 3 (v := ?_) rfl (by kernel_rfl) (by kernel_rfl) (by kernel_rfl) (fun _ _ _ h => h) (by rfl) ?_ hHeld ?_
          rotate_left
          · intro w hSw; (try dsimp only at hSw); go_simp; (try with_reducible rfl)
          try simp only [Act.put, List.setIfInBounds_toArray, List.set_cons_zero, List.set_cons_succ]
          refine hTake 4 (v := ?_) rfl (by kernel_rfl) (by kernel_rfl) (by kernel_rfl) (fun _ _ _ h => h) (by rfl) ?_ hHeld ?_
          rotate_left
          · intro w hSw; (try dsimp only at hSw); go_simp; (try with_reducible rfl)
          try simp only [Act.put, List.setIfInBounds_toArray, List.set_cons_zero, List.set_cons_succ]
          refine hTake 7 (v := ?_) rfl (by kernel_rfl) (by kernel_rfl) (by kernel_rfl) (fun _ _ _ h => h) (by rfl) ?_ hHeld ?_
          rotate_left
          · intro w hSw; (try dsimp only at hSw); go_simp; (try with_reducible rfl)
          try simp only [Act.put, List.setIfInBounds_toArray, List.set_cons_zero, List.set_cons_succ]
          refine hTake 8 (v := ?_) rfl (by kernel_rfl) (by kernel_rfl) (by kernel_rfl) (fun _ _ _ h => h) (by rfl) ?_ hHeld ?_
          rotate_left
          · intro w hSw; (try dsimp only at hSw); go_simp; (try with_reducible rfl)
          try simp only [Act.put, List.setIfInBounds_toArray, List.set_cons_zero, List.set_cons_succ]
          refine hTake 10 (v := ?_) rfl (by kernel_rfl) (by kernel_rfl) (by kernel_rfl) (fun _ _ _ h => h) (by rfl) ?_ hHeld ?_
          rotate_left
          · intro w hSw; (try dsimp only at hSw); go_simp; (try with_reducible rfl)
          try simp only [Act.put, List.setIfInBounds_toArray, List.set_cons_zero, List.set_cons_succ]
          refine hTake 9 (v := (.int .i64 (q : Int))) rfl (by kernel_rfl) (by kernel_rfl) (by kernel_rfl) (fun _ _ _ h => h) (by rfl) ?_ hHeld ?_
          · intro w hSw; have h1 := I0.out; go_simp; (try with_reducible rfl)
          try simp only [Act.put, List.setIfInBounds_toArray, List.set_cons_zero, List.set_cons_succ]
          refine hTake 11 (v := (.int .i64 (q1 : Int))) rfl (by kernel_rfl) (by kernel_rfl) (by kernel_rfl) (fun _ _ _ h => h) (by rfl) ?_ hHeld ?_
          · intro w hSw; have h1 := I1.out; go_simp; (try with_reducible rfl)
          try simp only [Act.put, List.setIfInBounds_toArray, List.set_cons_zero, List.set_cons_succ]
          refine hTake 12 (v := ?_) rfl (by kernel_rfl) (by kernel_rfl) (by kernel_rfl) (fun _ _ _ h => h) (by rfl) ?_ hHeld ?_
          rotate_left
          · intro w hSw; (try dsimp only at hSw); go_simp; (try with_reducible rfl)
          try simp only [Act.put, List.setIfInBounds_toArray, List.set_cons_zero, List.set_cons_succ]
          refine hTake 13 (v := (.int .u8 (d : Int))) rfl (by kernel_rfl) (by kernel_rfl) (by kernel_rfl) (fun _ _ _ h => h) (by rfl) ?_ hHeld ?_
          · intro w hSw; have h1 := C0.out w hSw; go_simp; (try with_reducible rfl)
          try simp only [Act.put, List.setIfInBounds_toArray, List.set_cons_zero, List.set_cons_succ]
          refine hTake 14 (v := (.int .u32 (d : Int))) rfl (by kernel_rfl) (by kernel_rfl) (by kernel_rfl) (fun _ _ _ h => h) (by rfl) ?_ hHeld ?_
          · intro w hSw; have h1 := W0.out; go_simp; (try with_reducible rfl)
          try simp only [Act.put, List.setIfInBounds_toArray, List.set_cons_zero, List.set_cons_succ]
          refine hStep 5 rfl (by kernel_rfl) (by rfl) (fun K hK => ?_)
          have HK := Lib.hid hK
          clear hK
          go_simp
          have hHeldN := hHeld
          refine HK.out _ _ hHeldN ?_
          clear HK K hHeld
          have hHeld := hHeldN
          clear hHeldN
          try simp only [Act.put, List.setIfInBounds_toArray, List.set_cons_zero, List.set_cons_succ]
          refine hTake 6 (v := (.int .u32 (P2 : Int))) rfl (by kernel_rfl) (by kernel_rfl) (by kernel_rfl) (fun _ _ _ h => h) (by rfl) ?_ hHeld ?_
          · intro w hSw; have h1 := M0.out; go_simp; (try with_reducible rfl)
          try simp only [Act.put, List.setIfInBounds_toArray, List.set_cons_zero, List.set_cons_succ]
          refine hTake 15 (v := (.int .u32 (u : Int))) rfl (by kernel_rfl) (by kernel_rfl) (by kernel_rfl) (fun _ _ _ h => h) (by rfl) ?_ hHeld ?_
          · intro w hSw; have h1 := A0.out; go_simp; (try with_reducible rfl)
          try simp only [Act.put, List.setIfInBounds_toArray, List.set_cons_zero, List.set_cons_succ]
          refine hTake 16 (v := ?_) rfl (by kernel_rfl) (by kernel_rfl) (by kernel_rfl) (fun _ _ _ h => h) (by rfl) ?_ hHeld ?_
          rotate_left
          · intro w hSw; (try dsimp only at hSw); go_simp; (try with_reducible rfl)
          try simp only [Act.put, List.setIfInBounds_toArray, List.set_cons_zero, List.set_cons_succ]
          refine hStep 17 rfl (by kernel_rfl) (by rfl) (fun K hK => ?_)
          have HK := Lib.hid hK
          clear hK
          go_simp
          have hKF : Kept (· = G) wr (wr.setCell ⟨G, k, none⟩ (.int .u32 (u : Int))).drew := (Kept.setCell (T := (· = G)) _ _ _ rfl).trans (Kept.drew (· = G) _) (fun i hi => .inl hi)
          have hHeldN := hKF
          refine HK.out _ _ hHeldN ?_
          clear HK K hHeld
          have hHeld := hHeldN
          clear hHeldN
          try simp only [Act.put, List.setIfInBounds_toArray, List.set_cons_zero, List.set_cons_succ]
          refine hDone (by kernel_rfl) ?_
          show NoPanic _ _ _ _
          refine NoPanic.normal ?_
          have hN : ArrAt 28 (wr.setCell ⟨G, k, none⟩ (.int .u32 (u : Int))).drew G (padP b k (m + 1)) := by
            have h1 := HA.out.set k u
            rw [HU.out, HSET.out, ← HU.out] at h1
            exact h1
          have hBF : Below G w (wr.setCell ⟨G, k, none⟩ (.int .u32 (u : Int))).drew := HBR.out.trans (hHeld.below hszr (fun z hz => by omega))
          have HF := Lib.hid (And.intro hN hBF)
          clear hN hBF hHeld hck hfr
          go_wp2
          go_roundw
          case rel => exact ⟨m + 1, by omega, by go_num, HF.out.1, HF.out.2⟩
          case measure => simp [intOf] <;> omega
        · obtain rfl : m = 4 := by omega
          rw [padP_4 b h16] at HA
          go_wp2
          go_roundw
          case rel => exact ⟨k + 1, by omega, by go_num, HA.out, HBR.out⟩
          case measure => simp [intOf] <;> omega
    · have hk16 : k = 16 := by omega
      rw [hk16] at HA
      clear hk16
      go_wp2_with fail
      rw [show decide ((k : Int) < 16) = false from decide_eq_false (by omega)]
      go_loopw [6, 7, 8] (fun i _ _ wr => ∃ k : Nat, 16 ≤ k ∧ k ≤ 64 ∧ i = .int .i64 (k : Int) ∧ ArrAt 28 wr G (padW b k) ∧ Below G w wr) (fun i _ _ _ => 64 - (intOf i).toNat)
      case atStart => exact ⟨16, by omega, by omega, rfl, HA.out, HBR.out⟩
      case round =>
        clear HA HBR h16 hk
        obtain ⟨k, h16', hk, rfl, hat, hbrr⟩ := hrel
        have h16 : ¬ k < 16 := by omega
        have HA := Lib.hid hat
        have HBR := Lib.hid hbrr
        have hszr : G ≤ wr.heap.size := by have := HG.out; have := hbrr.size; omega
        clear hat hbrr
        by_cases hlt : k < 64
        · have HSET := Lib.hid (padW_set b k hlt)
          have hkI : (k : Int) < 64 := by omega
          have hfr := HA.out.free k
          have hck := HA.out.cell (j := k) (by rw [padW_len b k hk]; exact hlt)
          generalize (padW b k).getD k 0 = old at hck
          have gv : ∀ j, j < k → wr.cell? ⟨G, j, none⟩ = some (.int .u32 (((wordsTo b k).getD j 0 : Nat) : Int)) ∧ (wordsTo b k).getD j 0 < 4294967296 := fun j hj => by
            have h1 := HA.out.cell (j := j) (by rw [padW_len b k hk]; omega)
            rw [padW_at b k j hj] at h1
            exact ⟨h1, getD_lt32 (wordsTo_lt b k) j⟩
          have HWK : Hid (wordK b (wordsTo b k) k = ((wordsTo b k).getD (k - 16) 0 + sg0 ((wordsTo b k).getD (k - 15) 0) + (wordsTo b k).getD (k - 7) 0 + sg1 ((wordsTo b k).getD (k - 2) 0)) % 4294967296) := by show _ = _; unfold wordK; rw [if_neg h16]
          obtain ⟨c16, b16⟩ := gv (k - 16) (by omega)
          obtain ⟨c15, b15⟩ := gv (k - 15) (by omega)
          obtain ⟨c7, b7⟩ := gv (k - 7) (by omega)
          obtain ⟨c2, b2⟩ := gv (k - 2) (by omega)
          generalize (wordsTo b k).getD (k - 16) 0 = x16 at *
          generalize (wordsTo b k).getD (k - 15) 0 = x15 at *
          generalize (wordsTo b k).getD (k - 7) 0 = x7 at *
          generalize (wordsTo b k).getD (k - 2) 0 = x2 at *
          obtain ⟨j16, hj16⟩ : ∃ j, j = k - 16 := ⟨_, rfl⟩
          obtain ⟨j15, hj15⟩ : ∃ j, j = k - 15 := ⟨_, rfl⟩
          obtain ⟨j7, hj7⟩ : ∃ j, j = k - 7 := ⟨_, rfl⟩
          obtain ⟨j2, hj2⟩ : ∃ j, j = k - 2 := ⟨_, rfl⟩
          rw [← hj16] at c16
          rw [← hj15] at c15
          rw [← hj7] at c7
          rw [← hj2] at c2
          have I16 : Hid (IntKind.i64.wrap ((k : Int) - 16) = (j16 : Int)) := by show _ = _; rw [IntKind.wrap_i64]; omega
          have I15 : Hid (IntKind.i64.wrap ((k : Int) - 15) = (j15 : Int)) := by show _ = _; rw [IntKind.wrap_i64]; omega
          have I7 : Hid (IntKind.i64.wrap ((k : Int) - 7) = (j7 : Int)) := by show _ = _; rw [IntKind.wrap_i64]; omega
          have I2 : Hid (IntKind.i64.wrap ((k : Int) - 2) = (j2 : Int)) := by show _ = _; rw [IntKind.wrap_i64]; omega
          have n16 : (j16 : Int) < 64 := by omega
          have n15 : (j15 : Int) < 64 := by omega
          have n7 : (j7 : Int) < 64 := by omega
          have n2 : (j2 : Int) < 64 := by omega
          have hlt1 : G < wr.heap.size := HA.out.lt
          have C15 : Hid (∀ w', Below wr.heap.size wr w' → w'.cell? ⟨G, j15, none⟩ = some (.int .u32 (x15 : Int))) := fun w' h => by rw [h.cell hlt1]; exact c15
          have C2 : Hid (∀ w', Below wr.heap.size wr w' → w'.cell? ⟨G, j2, none⟩ = some (.int .u32 (x2 : Int))) := fun w' h => by rw [h.cell hlt1]; exact c2
          have HC16 := Lib.hid c16
          have HC7 := Lib.hid c7
          have e16 : j16 ≠ k := by omega
          have e7 : j7 ≠ k := by omega
          have E16 := Lib.hid e16
          have E7 := Lib.hid e7
          have T1 := Lib.hid (refTurn_any x15 7 · b15 (by omega))
          have T2 := Lib.hid (refTurn_any x15 18 · b15 (by omega))
          have T3 := Lib.hid (refTurn_any x2 17 · b2 (by omega))
          have T4 := Lib.hid (refTurn_any x2 19 · b2 (by omega))
          obtain ⟨y15, hy15⟩ : ∃ y, y = x15 / 8 := ⟨_, rfl⟩
          obtain ⟨y2, hy2⟩ : ∃ y, y = x2 / 1024 := ⟨_, rfl⟩
          have D15 := Lib.hid (refMove_any x15 3 · b15 (by omega))
          have D2 := Lib.hid (refMove_any x2 10 · b2 (by omega))
          rw [show x15 / 2 ^ 3 = y15 from hy15.symm] at D15
          rw [show x2 / 2 ^ 10 = y2 from hy2.symm] at D2
          have r1 := rotN_lt b15 (n := 7) (by omega)
          have r2 := rotN_lt b15 (n := 18) (by omega)
          have r3 := rotN_lt b2 (n := 17) (by omega)
          have r4 := rotN_lt b2 (n := 19) (by omega)
          have X1 := Lib.hid (u32_xor_nat (rotN x15 7) (rotN x15 18) r1 r2)
          have X2 : Hid (bits BinOp.xor IntKind.u32 ((rotN x15 7 ^^^ rotN x15 18 : Nat) : Int) (y15 : Int) = ((sg0 x15 : Nat) : Int)) := by
            show _ = _
            rw [u32_xor_nat _ _ (xor_lt32 r1 r2) (by omega), hy15]; rfl
          have X3 := Lib.hid (u32_xor_nat (rotN x2 17) (rotN x2 19) r3 r4)
          have X4 : Hid (bits BinOp.xor IntKind.u32 ((rotN x2 17 ^^^ rotN x2 19 : Nat) : Int) (y2 : Int) = ((sg1 x2 : Nat) : Int)) := by
            show _ = _
            rw [u32_xor_nat _ _ (xor_lt32 r3 r4) (by omega), hy2]; rfl
          obtain ⟨z1, hz1⟩ : ∃ v, v = (x16 + x7) % 4294967296 := ⟨_, rfl⟩
          obtain ⟨z2, hz2⟩ : ∃ v, v = (z1 + sg0 x15) % 4294967296 := ⟨_, rfl⟩
          obtain ⟨v3, hv3⟩ : ∃ v, v = (z2 + sg1 x2) % 4294967296 := ⟨_, rfl⟩
          have Z1 : Hid (IntKind.u32.wrap ((x16 : Int) + (x7 : Int)) = (z1 : Int)) := by show _ = _; rw [add32, hz1]
          have Z2 : Hid (IntKind.u32.wrap ((z1 : Int) + ((sg0 x15 : Nat) : Int)) = (z2 : Int)) := by show _ = _; rw [add32, hz2]
          have Z3 : Hid (IntKind.u32.wrap ((z2 : Int) + ((sg1 x2 : Nat) : Int)) = (v3 : Int)) := by show _ = _; rw [add32, hv3]
          have HV : Hid (v3 = wordK b (wordsTo b k) k) := by show _ = _; rw [HWK.out]; omega
          clear gv c16 c15 c7 c2 hj16 hj15 hj7 hj2 hy15 hy2 hz1 hz2 hv3 r1 r2 r3 r4 e16 e7
          go_wp2_with fail
          refine hStart (fun w' => Below wr.heap.size wr w') (by kernel_rfl) ?_
          have hHeld := (Below.refl wr.heap.size wr).drew
          refine hTake 0 (v := ?_) rfl (by kernel_rfl) (by kernel_rfl) (by kernel_rfl) (fun _ _ _ h => h) (by rfl) ?_ hHeld ?_
          rotate_left
          · intro w hSw; (try dsimp only at hSw); go_simp; (try with_reducible rfl)
          try simp only [Act.put, List.setIfInBounds_toArray, List.set_cons_zero, List.set_cons_succ]
          refine hTake 1 (v := ?_) rfl (by kernel_rfl) (by kernel_rfl) (by kernel_rfl) (fun _ _ _ h => h) (by rfl) ?_ hHeld ?_
          rotate_left
          · intro w hSw; (try dsimp only at hSw); go_simp; (try with_reducible rfl)
          try simp only [Act.put, List.setIfInBounds_toArray, List.set_cons_zero, List.set_cons_succ]
          refine hTake 6 (v := ?_) rfl (by kernel_rfl) (by kernel_rfl) (by kernel_rfl) (fun _ _ _ h => h) (by rfl) ?_ hHeld ?_
          rotate_left
          · intro w hSw; (try dsimp only at hSw); go_simp; (try with_reducible rfl)
          try simp only [Act.put, List.setIfInBounds_toArray, List.set_cons_zero, List.set_cons_succ]
          refine hTake 7 (v := ?_) rfl (by kernel_rfl) (by kernel_rfl) (by kernel_rfl) (fun _ _ _ h => h) (by rfl) ?_ hHeld ?_
          rotate_left
          · intro w hSw; (try dsimp only at hSw); go_simp; (try with_reducible rfl)
          try simp only [Act.put, List.setIfInBounds_toArray, List.set_cons_zero, List.set_cons_succ]
          refine hTake 13 (v := ?_) rfl (by kernel_rfl) (by kernel_rfl) (by kernel_rfl) (fun _ _ _ h => h) (by rfl) ?_ hHeld ?_
          rotate_left
          · intro w hSw; (try dsimp only at hSw); go_simp; (try with_reducible rfl)
          try simp only [Act.put, List.setIfInBounds_toArray, List.set_cons_zero, List.set_cons_succ]
          refine hTake 14 (v := ?_) rfl (by kernel_rfl) (by kernel_rfl) (by kernel_rfl) (fun _ _ _ h => h) (by rfl) ?_ hHeld ?_
          rotate_left
          · intro w hSw; (try dsimp only at hSw); go_simp; (try with_reducible rfl)
          try simp only [Act.put, List.setIfInBounds_toArray, List.set_cons_zero, List.set_cons_succ]
          refine hTake 2 (v := (.int .i64 (j15 : Int))) rfl (by kernel_rfl) (by kernel_rfl) (by kernel_rfl) (fun _ _ _ h => h) (by rfl) ?_ hHeld ?_
          · intro w hSw; have h1 := I15.out; go_simp; (try with_reducible rfl)
          try simp only [Act.put, List.setIfInBounds_toArray, List.set_cons_zero, List.set_cons_succ]
          refine hTake 8 (v := (.int .i64 (j15 : Int))) rfl (by kernel_rfl) (by kernel_rfl) (by kernel_rfl) (fun _ _ _ h => h) (by rfl) ?_ hHeld ?_
          · intro w hSw; have h1 := I15.out; go_simp; (try with_reducible rfl)
          try simp only [Act.put, List.setIfInBounds_toArray, List.set_cons_zero, List.set_cons_succ]
          refine hTake 15 (v := (.int .i64 (j15 : Int))) rfl (by kernel_rfl) (by kernel_rfl) (by kernel_rfl) (fun _ _ _ h => h) (by rfl) ?_ hHeld ?_
          · intro w hSw; have h1 := I15.out; go_simp; (try with_reducible rfl)
          try simp only [Act.put, List.setIfInBounds_toArray, List.set_cons_zero, List.set_cons_succ]
          refine hTake 3 (v := ?_) rfl (by kernel_rfl) (by kernel_rfl) (by kernel_rfl) (fun _ _ _ h => h) (by rfl) ?_ hHeld ?_
          rotate_left
          · intro w hSw; (try dsimp only at hSw); go_simp; (try with_reducible rfl)
          try simp only [Act.put, List.setIfInBounds_toArray, List.set_cons_zero, List.set_cons_succ]
          refine hTake 9 (v := ?_) rfl (by kernel_rfl) (by kernel_rfl) (by kernel_rfl) (fun _ _ _ h => h) (by rfl) ?_ hHeld ?_
          rotate_left
          · intro w hSw; (try dsimp only at hSw); go_simp; (try with_reducible rfl)
          try simp only [Act.put, List.setIfInBounds_toArray, List.set_cons_zero, List.set_cons_succ]
          refine hTake 16 (v := ?_) rfl (by kernel_rfl) (by kernel_rfl) (by kernel_rfl) (fun _ _ _ h => h) (by rfl) ?_ hHeld ?_
          rotate_left
          · intro w hSw; (try dsimp only at hSw); go_simp; (try with_reducible rfl)
          try simp only [Act.put, List.setIfInBounds_toArray, List.set_cons_zero, List.set_cons_succ]
          refine hTake 4 (v := (.int .u32 (x15 : Int))) rfl (by kernel_rfl) (by kernel_rfl) (by kernel_rfl) (fun _ _ _ h => h) (by rfl) ?_ hHeld ?_
          · intro w hSw; have h1 := C15.out w hSw; go_simp; (try with_reducible rfl)
          try simp only [Act.put, List.setIfInBounds_toArray, List.set_cons_zero, List.set_cons_succ]
          refine hTake 10 (v := (.int .u32 (x15 : Int))) rfl (by kernel_rfl) (by kernel_rfl) (by kernel_rfl) (fun _ _ _ h => h) (by rfl) ?_ hHeld ?_
          · intro w hSw; have h1 := C15.out w hSw; go_simp; (try with_reducible rfl)
          try simp only [Act.put, List.setIfInBounds_toArray, List.set_cons_zero, List.set_cons_succ]
          refine hTake 17 (v := (.int .u32 (x15 : Int))) rfl (by kernel_rfl) (by kernel_rfl) (by kernel_rfl) (fun _ _ _ h => h) (by rfl) ?_ hHeld ?_
          · intro w hSw; have h1 := C15.out w hSw; go_simp; (try with_reducible rfl)
          try simp only [Act.put, List.setIfInBounds_toArray, List.set_cons_zero, List.set_cons_succ]
          refine hStep 5 rfl (by kernel_rfl) (by rfl) (fun K hK => ?_)
          have HK := Lib.hid hK
          clear hK
          go_simp
          refine (T1.out _).mono ?_
          rintro e1 w3 ⟨rfl, rfl⟩
          have hHeldN := hHeld
          refine HK.out _ _ hHeldN ?_
          clear HK K hHeld
          have hHeld := hHeldN
          clear hHeldN
          try simp only [Act.put, List.setIfInBounds_toArray, List.set_cons_zero, List.set_cons_succ]
          refine hStep 11 rfl (by kernel_rfl) (by rfl) (fun K hK => ?_)
          have HK := Lib.hid hK
          clear hK
          go_simp
          refine (T2.out _).mono ?_
          rintro e1 w3 ⟨rfl, rfl⟩
          have hHeldN := hHeld
          refine HK.out _ _ hHeldN ?_
          clear HK K hHeld
          have hHeld := hHeldN
          clear hHeldN
          try simp only [Act.put, List.setIfInBounds_toArray, List.set_cons_zero, List.set_cons_succ]
          refine hTake 12 (v := (.int .u32 ((rotN x15 7 ^^^ rotN x15 18 : Nat) : Int))) rfl (by kernel_rfl) (by kernel_rfl) (by kernel_rfl) (fun _ _ _ h => h) (by rfl) ?_ hHeld ?_
          · intro w hSw; have h1 := X1.out; go_simp; (try with_reducible rfl)
          try simp only [Act.put, List.setIfInBounds_toArray, List.set_cons_zero, List.set_cons_succ]
          refine hStep 18 rfl (by kernel_rfl) (by rfl) (fun K hK => ?_)
          have HK := Lib.hid hK
          clear hK
          go_simp
          refine (D15.out _).mono ?_
          rintro e1 w3 ⟨rfl, rfl⟩
          have hHeldN := hHeld
          refine HK.out _ _ hHeldN ?_
          clear HK K hHeld
          have hHeld := hHeldN
          clear hHeldN
          try simp only [Act.put, List.setIfInBounds_toArray, List.set_cons_zero, List.set_cons_succ]
          refine hTake 19 (v := (.int .u32 ((sg0 x15 : Nat) : Int))) rfl (by kernel_rfl) (by kernel_rfl) (by kernel_rfl) (fun _ _ _ h => h) (by rfl) ?_ hHeld ?_
          · intro w hSw; have h1 := X2.out; go_simp; (try with_reducible rfl)
          try simp only [Act.put, List.setIfInBounds_toArray, List.set_cons_zero, List.set_cons_succ]
          refine hTake 20 (v := ?_) rfl (by kernel_rfl) (by kernel_rfl) (by kernel_rfl) (fun _ _ _ h => h) (by rfl) ?_ hHeld ?_
          rotate_left
          · intro w hSw; (try dsimp only at hSw); go_simp; (try with_reducible rfl)
          try simp only [Act.put, List.setIfInBounds_toArray, List.set_cons_zero, List.set_cons_succ]
          refine hDone (by kernel_rfl) ?_
          show NoPanic _ _ _ _
          refine NoPanic.normal ?_
          have hBx := hHeld
          go_wp2_with fail
          refine hStart (fun w' => Below wr.heap.size wr w') (by kernel_rfl) ?_
          have hHeld := hBx.drew
          refine hTake 0 (v := ?_) rfl (by kernel_rfl) (by kernel_rfl) (by kernel_rfl) (fun _ _ _ h => h) (by rfl) ?_ hHeld ?_
          rotate_left
          · intro w hSw; (try dsimp only at hSw); go_simp; (try with_reducible rfl)
          try simp only [Act.put, List.setIfInBounds_toArray, List.set_cons_zero, List.set_cons_succ]
          refine hTake 1 (v := ?_) rfl (by kernel_rfl) (by kernel_rfl) (by kernel_rfl) (fun _ _ _ h => h) (by rfl) ?_ hHeld ?_
          rotate_left
          · intro w hSw; (try dsimp only at hSw); go_simp; (try with_reducible rfl)
          try simp only [Act.put, List.setIfInBounds_toArray, List.set_cons_zero, List.set_cons_succ]
          refine hTake 6 (v := ?_) rfl (by kernel_rfl) (by kernel_rfl) (by kernel_rfl) (fun _ _ _ h => h) (by rfl) ?_ hHeld ?_
          rotate_left
          · intro w hSw; (try dsimp only at hSw); go_simp; (try with_reducible rfl)
          try simp only [Act.put, List.setIfInBounds_toArray, List.set_cons_zero, List.set_cons_succ]
          refine hTake 7 (v := ?_) rfl (by kernel_rfl) (by kernel_rfl) (by kernel_rfl) (fun _ _ _ h => h) (by rfl) ?_ hHeld ?_
          rotate_left
          · intro w hSw; (try dsimp only at hSw); go_simp; (try with_reducible rfl)
          try simp only [Act.put, List.setIfInBounds_toArray, List.set_cons_zero, List.set_cons_succ]
          refine hTake 13 (v := ?_) rfl (by kernel_rfl) (by kernel_rfl) (by kernel_rfl) (fun _ _ _ h => h) (by rfl) ?_ hHeld ?_
          rotate_left
          · intro w hSw; (try dsimp only at hSw); go_simp; (try with_reducible rfl)
          try simp only [Act.put, List.setIfInBounds_toArray, List.set_cons_zero, List.set_cons_succ]
          refine hTake 14 (v := ?_) rfl (by kernel_rfl) (by kernel_rfl) (by kernel_rfl) (fun _ _ _ h => h) (by rfl) ?_ hHeld ?_
          rotate_left
          · intro w hSw; (try dsimp only at hSw); go_simp; (try with_reducible rfl)
          try simp only [Act.put, List.setIfInBounds_toArray, List.set_cons_zero, List.set_cons_succ]
          refine hTake 2 (v := (.int .i64 (j2 : Int))) rfl (by kernel_rfl) (by kernel_rfl) (by kernel_rfl) (fun _ _ _ h => h) (by rfl) ?_ hHeld ?_
          · intro w hSw; have h1 := I2.out; go_simp; (try with_reducible rfl)
          try simp only [Act.put, List.setIfInBounds_toArray, List.set_cons_zero, List.set_cons_succ]
          refine hTake 8 (v := (.int .i64 (j2 : Int))) rfl (by kernel_rfl) (by kernel_rfl) (by kernel_rfl) (fun _ _ _ h => h) (by rfl) ?_ hHeld ?_
          · intro w hSw; have h1 := I2.out; go_simp; (try with_reducible rfl)
          try simp only [Act.put, List.setIfInBounds_toArray, List.set_cons_zero, List.set_cons_succ]
          refine hTake 15 (v := (.int .i64 (j2 : Int))) rfl (by kernel_rfl) (by kernel_rfl) (by kernel_rfl) (fun _ _ _ h => h) (by rfl) ?_ hHeld ?_
          · intro w hSw; have h1 := I2.out; go_simp; (try with_reducible rfl)
          try simp only [Act.put, List.setIfInBounds_toArray, List.set_cons_zero, List.set_cons_succ]
          refine hTake 3 (v := ?_) rfl (by kernel_rfl) (by kernel_rfl) (by kernel_rfl) (fun _ _ _ h => h) (by rfl) ?_ hHeld ?_
          rotate_left
          · intro w hSw; (try dsimp only at hSw); go_simp; (try with_reducible rfl)
          try simp only [Act.put, List.setIfInBounds_toArray, List.set_cons_zero, List.set_cons_succ]
          refine hTake 9 (v := ?_) rfl (by kernel_rfl) (by kernel_rfl) (by kernel_rfl) (fun _ _ _ h => h) (by rfl) ?_ hHeld ?_
          rotate_left
          · intro w hSw; (try dsimp only at hSw); go_simp; (try with_reducible rfl)
          try simp only [Act.put, List.setIfInBounds_toArray, List.set_cons_zero, List.set_cons_succ]
          refine hTake 16 (v := ?_) rfl (by kernel_rfl) (by kernel_rfl) (by kernel_rfl) (fun _ _ _ h => h) (by rfl) ?_ hHeld ?_
          rotate_left
          · intro w hSw; (try dsimp only at hSw); go_simp; (try with_reducible rfl)
          try simp only [Act.put, List.setIfInBounds_toArray, List.set_cons_zero, List.set_cons_succ]
          refine hTake 4 (v := (.int .u32 (x2 : Int))) rfl (by kernel_rfl) (by kernel_rfl) (by kernel_rfl) (fun _ _ _ h => h) (by rfl) ?_ hHeld ?_
          · intro w hSw; have h1 := C2.out w hSw; go_simp; (try with_reducible rfl)
          try simp only [Act.put, List.setIfInBounds_toArray, List.set_cons_zero, List.set_cons_succ]
          refine hTake 10 (v := (.int .u32 (x2 : Int))) rfl (by kernel_rfl) (by kernel_rfl) (by kernel_rfl) (fun _ _ _ h => h) (by rfl) ?_ hHeld ?_
          · intro w hSw; have h1 := C2.out w hSw; go_simp; (try with_reducible rfl)
          try simp only [Act.put, List.setIfInBounds_toArray, List.set_cons_zero, List.set_cons_succ]
          refine hTake 17 (v := (.int .u32 (x2 : Int))) rfl (by kernel_rfl) (by kernel_rfl) (by kernel_rfl) (fun _ _ _ h => h) (by rfl) ?_ hHeld ?_
          · intro w hSw; have h1 := C2.out w hSw; go_simp; (try with_reducible rfl)
          try simp only [Act.put, List.setIfInBounds_toArray, List.set_cons_zero, List.set_cons_succ]
          refine hStep 5 rfl (by kernel_rfl) (by rfl) (fun K hK => ?_)
          have HK := Lib.hid hK
          clear hK
          go_simp
          refine (T3.out _).mono ?_
          rintro e1 w3 ⟨rfl, rfl⟩
          have hHeldN := hHeld
          refine HK.out _ _ hHeldN ?_
          clear HK K hHeld
          have hHeld := hHeldN
          clear hHeldN
          try simp only [Act.put, List.setIfInBounds_toArray, List.set_cons_zero, List.set_cons_succ]
          refine hStep 11 rfl (by kernel_rfl) (by rfl) (fun K hK => ?_)
          have HK := Lib.hid hK
          clear hK
          go_simp
          refine (T4.out _).mono ?_
          rintro e1 w3 ⟨rfl, rfl⟩
          have hHeldN := hHeld
          refine HK.out _ _ hHeldN ?_
          clear HK K hHeld
          have hHeld := hHeldN
          clear hHeldN
          try simp only [Act.put, List.setIfInBounds_toArray, List.set_cons_zero, List.set_cons_succ]
          refine hTake 12 (v := (.int .u32 ((rotN x2 17 ^^^ rotN x2 19 : Nat) : Int))) rfl (by kernel_rfl) (by kernel_rfl) (by kernel_rfl) (fun _ _ _ h => h) (by rfl) ?_ hHeld ?_
          · intro w hSw; have h1 := X3.out; go_simp; (try with_reducible rfl)
          try simp only [Act.put, List.setIfInBounds_toArray, List.set_cons_zero, List.set_cons_succ]
          refine hStep 18 rfl (by kernel_rfl) (by rfl) (fun K hK => ?_)
          have HK := Lib.hid hK
          clear hK
          go_simp
          refine (D2.out _).mono ?_
          rintro e1 w3 ⟨rfl, rfl⟩
          have hHeldN := hHeld
          refine HK.out _ _ hHeldN ?_
          clear HK K hHeld
          have hHeld := hHeldN
          clear hHeldN
          try simp only [Act.put, List.setIfInBounds_toArray, List.set_cons_zero, List.set_cons_succ]
          refine hTake 19 (v := (.int .u32 ((sg1 x2 : Nat) : Int))) rfl (by kernel_rfl) (by kernel_rfl) (by kernel_rfl) (fun _ _ _ h => h) (by rfl) ?_ hHeld ?_
          · intro w hSw; have h1 := X4.out; go_simp; (try with_reducible rfl)
          try simp only [Act.put, List.setIfInBounds_toArray, List.set_cons_zero, List.set_cons_succ]
          refine hTake 20 (v := ?_) rfl (by kernel_rfl) (by kernel_rfl) (by kernel_rfl) (fun _ _ _ h => h) (by rfl) ?_ hHeld ?_
          rotate_left
          · intro w hSw; (try dsimp only at hSw); go_simp; (try with_reducible rfl)
          try simp only [Act.put, List.setIfInBounds_toArray, List.set_cons_zero, List.set_cons_succ]
          refine hDone (by kernel_rfl) ?_
          show NoPanic _ _ _ _
          refine NoPanic.normal ?_
          have hBy := hHeld
          clear hHeld hBx
          obtain ⟨w5, hw5⟩ : ∃ w5, w5 = wr.drew.drew := ⟨_, rfl⟩
          have HB5 : Hid (Below wr.heap.size wr w5) := by show Below _ _ _; rw [hw5]; exact hBy
          have HEQ : Hid (w5.heap = wr.heap) := by show _ = _; rw [hw5]; rfl
          rw [← hw5]
          clear hw5 hBy
          have c16 : w5.cell? ⟨G, j16, none⟩ = some (.int .u32 (x16 : Int)) := by rw [HB5.out.cell hlt1]; exact HC16.out
          have c7 : w5.cell? ⟨G, j7, none⟩ = some (.int .u32 (x7 : Int)) := by rw [HB5.out.cell hlt1]; exact HC7.out
          have ck : w5.cell? ⟨G, k, none⟩ = some (.int .u32 (old : Int)) := by rw [HB5.out.cell hlt1]; exact hck
          have fk : w5.frozen? ⟨G, k, none⟩ = false := by rw [HB5.out.frozen hlt1]; exact hfr
          clear hck hfr
          have HA5 : Hid (ArrAt 28 w5 G (padW b k)) := by show w5.heap[G]? = _; rw [HEQ.out]; exact HA.out
          have CC := Lib.hid (And.intro c16 c7)
          clear c16 c7
          go_wp2_with fail
          refine hStart (fun w' => w'.cell? ⟨G, j16, none⟩ = some (.int .u32 (x16 : Int)) ∧ w'.cell? ⟨G, j7, none⟩ = some (.int .u32 (x7 : Int))) (by kernel_rfl) ?_
          have hHeld : w5.drew.cell? ⟨G, j16, none⟩ = some (.int .u32 (x16 : Int)) ∧ w5.drew.cell? ⟨G, j7, none⟩ = some (.int .u32 (x7 : Int)) := CC.out
          refine hTake 0 (v := ?_) rfl (by kernel_rfl) (by kernel_rfl) (by kernel_rfl) (fun _ _ _ h => h) (by rfl) ?_ hHeld ?_
          rotate_left
          · intro w hSw; (try dsimp only at hSw); go_simp; (try with_reducible rfl)
          try simp only [Act.put, List.setIfInBounds_toArray, List.set_cons_zero, List.set_cons_succ]
          refine hTake 1 (v := ?_) rfl (by kernel_rfl) (by kernel_rfl) (by kernel_rfl) (fun _ _ _ h => h) (by rfl) ?_ hHeld ?_
          rotate_left
          · intro w hSw; (try dsimp only at hSw); go_simp; (try with_reducible rfl)
          try simp only [Act.put, List.setIfInBounds_toArray, List.set_cons_zero, List.set_cons_succ]
          refine hTake 2 (v := ?_) rfl (by kernel_rfl) (by kernel_rfl) (by kernel_rfl) (fun _ _ _ h => h) (by rfl) ?_ hHeld ?_
          rotate_left
          · intro w hSw; (try dsimp only at hSw); go_simp; (try with_reducible rfl)
          try simp only [Act.put, List.setIfInBounds_toArray, List.set_cons_zero, List.set_cons_succ]
          refine hTake 3 (v := ?_) rfl (by kernel_rfl) (by kernel_rfl) (by kernel_rfl) (fun _ _ _ h => h) (by rfl) ?_ hHeld ?_
          rotate_left
          · intro w hSw; (try dsimp only at hSw); go_simp; (try with_reducible rfl)
          try simp only [Act.put, List.setIfInBounds_toArray, List.set_cons_zero, List.set_cons_succ]
          refine hTake 7 (v := ?_) rfl (by kernel_rfl) (by kernel_rfl) (by kernel_rfl) (fun _ _ _ h => h) (by rfl) ?_ hHeld ?_
          rotate_left
          · intro w hSw; (try dsimp only at hSw); go_simp; (try with_reducible rfl)
          try simp only [Act.put, List.setIfInBounds_toArray, List.set_cons_zero, List.set_cons_succ]
          refine hTake 8 (v := ?_) rfl (by kernel_rfl) (by kernel_rfl) (by kernel_rfl) (fun _ _ _ h => h) (by rfl) ?_ hHeld ?_
          rotate_left
          · intro w hSw; (try dsimp only at hSw); go_simp; (try with_reducible rfl)
          try simp only [Act.put, List.setIfInBounds_toArray, List.set_cons_zero, List.set_cons_succ]
          refine hTake 13 (v := ?_) rfl (by kernel_rfl) (by kernel_rfl) (by kernel_rfl) (fun _ _ _ h => h) (by rfl) ?_ hHeld ?_
          rotate_left
          · intro w hSw; (try dsimp only at hSw); go_simp; (try with_reducible rfl)
          try simp only [Act.put, List.setIfInBounds_toArray, List.set_cons_zero, List.set_cons_succ]
          refine hTake 15 (v := ?_) rfl (by kernel_rfl) (by kernel_rfl) (by kernel_rfl) (fun _ _ _ h => h) (by rfl) ?_ hHeld ?_
          rotate_left
          · intro w hSw; (try dsimp only at hSw); go_simp; (try with_reducible rfl)
          try simp only [Act.put, List.setIfInBounds_toArray, List.set_cons_zero, List.set_cons_succ]
          refine hTake 4 (v := (.int .i64 (j16 : Int))) rfl (by kernel_rfl) (by kernel_rfl) (by kernel_rfl) (fun _ _ _ h => h) (by rfl) ?_ hHeld ?_
          · intro w hSw; have h1 := I16.out; go_simp; (try with_reducible rfl)
          try simp only [Act.put, List.setIfInBounds_toArray, List.set_cons_zero, List.set_cons_succ]
          refine hTake 9 (v := (.int .i64 (j7 : Int))) rfl (by kernel_rfl) (by kernel_rfl) (by kernel_rfl) (fun _ _ _ h => h) (by rfl) ?_ hHeld ?_
          · intro w hSw; have h1 := I7.out; go_simp; (try with_reducible rfl)
          try simp only [Act.put, List.setIfInBounds_toArray, List.set_cons_zero, List.set_cons_succ]
          refine hTake 5 (v := ?_) rfl (by kernel_rfl) (by kernel_rfl) (by kernel_rfl) (fun _ _ _ h => h) (by rfl) ?_ hHeld ?_
          rotate_left
          · intro w hSw; (try dsimp only at hSw); go_simp; (try with_reducible rfl)
          try simp only [Act.put, List.setIfInBounds_toArray, List.set_cons_zero, List.set_cons_succ]
          refine hTake 10 (v := ?_) rfl (by kernel_rfl) (by kernel_rfl) (by kernel_rfl) (fun _ _ _ h => h) (by rfl) ?_ hHeld ?_
          rotate_left
          · intro w hSw; (try dsimp only at hSw); go_simp; (try with_reducible rfl)
          try simp only [Act.put, List.setIfInBounds_toArray, List.set_cons_zero, List.set_cons_succ]
          refine hTake 6 (v := (.int .u32 (x16 : Int))) rfl (by kernel_rfl) (by kernel_rfl) (by kernel_rfl) (fun _ _ _ h => h) (by rfl) ?_ hHeld ?_
          · intro w hSw; have h1 := hSw.1; go_simp; (try with_reducible rfl)
          try simp only [Act.put, List.setIfInBounds_toArray, List.set_cons_zero, List.set_cons_succ]
          refine hTake 11 (v := (.int .u32 (x7 : Int))) rfl (by kernel_rfl) (by kernel_rfl) (by kernel_rfl) (fun _ _ _ h => h) (by rfl) ?_ hHeld ?_
          · intro w hSw; have h1 := hSw.2; go_simp; (try with_reducible rfl)
          try simp only [Act.put, List.setIfInBounds_toArray, List.set_cons_zero, List.set_cons_succ]
          refine hTake 12 (v := (.int .u32 (z1 : Int))) rfl (by kernel_rfl) (by kernel_rfl) (by kernel_rfl) (fun _ _ _ h => h) (by rfl) ?_ hHeld ?_
          · intro w hSw; have h1 := Z1.out; go_simp; (try with_reducible rfl)
          try simp only [Act.put, List.setIfInBounds_toArray, List.set_cons_zero, List.set_cons_succ]
          refine hTake 14 (v := (.int .u32 (z2 : Int))) rfl (by kernel_rfl) (by kernel_rfl) (by kernel_rfl) (fun _ _ _ h => h) (by rfl) ?_ hHeld ?_
          · intro w hSw; have h1 := Z2.out; go_simp; (try with_reducible rfl)
          try simp only [Act.put, List.setIfInBounds_toArray, List.set_cons_zero, List.set_cons_succ]
          refine hTake 16 (v := (.int .u32 (v3 : Int))) rfl (by kernel_rfl) (by kernel_rfl) (by kernel_rfl) (fun _ _ _ h => h) (by rfl) ?_ hHeld ?_
          · intro w hSw; have h1 := Z3.out; go_simp; (try with_reducible rfl)
          try simp only [Act.put, List.setIfInBounds_toArray, List.set_cons_zero, List.set_cons_succ]
          refine hTake 17 (v := ?_) rfl (by kernel_rfl) (by kernel_rfl) (by kernel_rfl) (fun _ _ _ h => h) (by rfl) ?_ hHeld ?_
          rotate_left
          · intro w hSw; (try dsimp only at hSw); go_simp; (try with_reducible rfl)
          try simp only [Act.put, List.setIfInBounds_toArray, List.set_cons_zero, List.set_cons_succ]
          refine hStep 18 rfl (by kernel_rfl) (by rfl) (fun K hK => ?_)
          have HK := Lib.hid hK
          clear hK
          go_simp
          have hq : (w5.setCell ⟨G, k, none⟩ (.int .u32 (v3 : Int))).drew.cell? ⟨G, j16, none⟩ = some (.int .u32 (x16 : Int)) ∧ (w5.setCell ⟨G, k, none⟩ (.int .u32 (v3 : Int))).drew.cell? ⟨G, j7, none⟩ = some (.int .u32 (x7 : Int)) :=
            ⟨(cell_set_ne HA5.out j16 k E16.out v3).trans CC.out.1, (cell_set_ne HA5.out j7 k E7.out v3).trans CC.out.2⟩
          have hHeldN := hq
          refine HK.out _ _ hHeldN ?_
          clear HK K hHeld
          have hHeld := hHeldN
          clear hHeldN
          try simp only [Act.put, List.setIfInBounds_toArray, List.set_cons_zero, List.set_cons_succ]
          refine hDone (by kernel_rfl) ?_
          show NoPanic _ _ _ _
          refine NoPanic.normal ?_
          have hN : ArrAt 28 (w5.setCell ⟨G, k, none⟩ (.int .u32 (v3 : Int))).drew G (padW b (k + 1)) := by
            have h1 := HA5.out.set k v3
            rw [HV.out, HSET.out, ← HV.out] at h1
            exact h1
          have hKF : Kept (· = G) w5 (w5.setCell ⟨G, k, none⟩ (.int .u32 (v3 : Int))).drew := (Kept.setCell (T := (· = G)) _ _ _ rfl).trans (Kept.drew (· = G) _) (fun i hi => .inl hi)
          have hb5 := HBR.out.trans (HB5.out.mono hszr)
          have hBF : Below G w (w5.setCell ⟨G, k, none⟩ (.int .u32 (v3 : Int))).drew := hb5.trans (hKF.below (Nat.le_trans hszr HB5.out.size) (fun z hz => by omega))
          have HF := Lib.hid (And.intro hN hBF)
          clear hN hBF hKF hHeld hq ck fk
          go_wp2
          go_roundw
          case rel => exact ⟨k + 1, by omega, by omega, by go_num, HF.out.1, HF.out.2⟩
          case measure => simp [intOf] <;> omega
        · obtain rfl : k = 64 := by omega
          have HE : ArrAt 28 wr G (wordsN b) := by rw [← padW_end]; exact HA.out
          have HF := Lib.hid HE
          clear HE
          go_wp2
          go_ret
          exact ⟨rfl, HF.out, HBR.out⟩
end Go.Proofs.Ytegeglnfpddgfaa
