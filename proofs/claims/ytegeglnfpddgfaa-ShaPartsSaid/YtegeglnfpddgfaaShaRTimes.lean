/- The walk of the document's times. -/
import Derived.Test.YtegeglnfpddgfaaShaRDigits
namespace Go.Proofs.Ytegeglnfpddgfaa
open Go.RowKit

theorem info_u64 : (Try.prog.info? 48).map (fun i => (i.zero, i.size, i.bytes)) = some (some (.int .u64 0), 1, 8) := by kernel_rfl
/-- make([]uint64, n). -/
theorem wpList_makeU {w : World} {ops : Array Oper} {rest : List Oper} {o : Oper} {a : Act} {Q : Exit → Act → World → Prop} (hgd : o.guard = none) (lo co : Operand)
    (ho : o.op = Op.makeSlice 58 lo co) (n : Nat) (L : Int) (hl : a.eval lo = .int .i64 L) (hc : a.eval co = .int .i64 L) (hL : L = (n : Int)) (hn : n ≤ 100) (h0 : 0 < n)
    (h : ∀ w' G, Hid (G = w.heap.size) → Hid (DgAt w' G (List.replicate n 0)) → Hid (Below w.heap.size w w') →
      wpList Try.prog ops Q rest (a.put o.dst (.slice (some ⟨G, 0, none⟩) n n)) w') : wpList Try.prog ops Q (o :: rest) a w := by
  obtain ⟨i0, hi, hz0, hz1, hz2⟩ := info_parts info_u64
  refine wpList_make_full w hgd lo co 58 ho w.heap.size 48 i0 (.int .u64 0) 1 Try.underlying58 hi hz0 hz1 .i64 .i64 L L n hl hc hL hL (by rw [hz2]; omega) (by unfold maxLen; omega) (Nat.le_refl _) ?_
  intro w' h1 h2
  refine h w' _ rfl ?_ ((Below.refl _ _).grown h2 (Nat.le_refl _) (by simp))
  show w'.heap[w.heap.size]? = _
  rw [show (Value.int .u64 0).cells = #[Value.int .u64 0] from rfl, Nat.mul_one, toList_madeCells_one] at h1
  rcases h1.2 with ⟨hv, _⟩ | ⟨g', cap', cur, hv, hbg, hg, k1, k2, k3, k4⟩
  · cases hv
  · cases hv
    rw [hg]
    congr 2
    apply Array.ext'
    have hs : cur.toList.length = n := by rw [Array.length_toList, k3, Nat.mul_one]
    rw [← List.take_of_length_le (l := cur.toList) (i := n) (by omega)]
    have := k4
    simp only [Nat.mul_one] at this
    rw [this]
    simp [arrU, u64v]

theorem wpList_storeU1 {w : World} {g : Nat} {l : List Nat} {ops : Array Oper} {rest : List Oper} {o : Oper} {a : Act} {Q : Exit → Act → World → Prop} {z : Int} (hgd : o.guard = none) (x y : Operand) (ho : o.op = .store 48 x y)
    (j : Nat) (hx : a.eval x = .pointer (some ⟨g, j, none⟩)) (d : Nat) (hy : a.eval y = .int .u64 z) (hz : z = (d : Int)) (hat : DgAt w g l) (hj : j < l.length)
    (h : ∀ w', Hid (DgAt w' g (l.set j d)) → Hid (Kept (· = g) w w') → wpList Try.prog ops Q rest (a.put o.dst undef) w') : wpList Try.prog ops Q (o :: rest) a w := by
  subst hz
  refine wpList_plain hgd fun K hK => ?_
  have h2 := h (w.setCell ⟨g, j, none⟩ (.int .u64 (d : Int))) (hat.set j d) (Kept.setCell (T := (· = g)) _ _ _ rfl)
  have hc := hat.cell hj
  have hf := hat.free j
  have hk := hK _ _ h2
  clear h h2 hK
  unfold Oper.wp execOp
  simp only [ho, hx, hy]
  go_simp
  exact hk

theorem carryN_len : ∀ (f : Nat) (l : List Nat) (j : Nat), (carryN f l j).length = l.length
  | 0, _, _ => rfl
  | f + 1, l, j => by
    rw [carryN]; split
    · rw [carryN_len]; simp
    · rfl
theorem colTo_len (a b out : List Nat) (i : Nat) : ∀ k, (colTo a b out i k).length = out.length
  | 0 => rfl
  | k + 1 => by rw [colTo, carryN_len, putN, List.length_set, colTo_len]
theorem rowTo_len (a b : List Nat) : ∀ i, (rowTo a b i).length = a.length + b.length
  | 0 => by rw [rowTo, List.length_replicate]
  | i + 1 => by rw [rowTo, colTo_len, rowTo_len]
theorem carryN_small : ∀ (f : Nat) (l : List Nat) (j : Nat), Small l → Small (carryN f l j)
  | 0, _, _, h => h
  | f + 1, l, j, h => by
    rw [carryN]; split
    · exact carryN_small f _ _ ((h.set _ _ (Nat.mod_lt _ (by omega))).set _ _ (by have := Nat.mod_lt (l.getD j 0) (show 0 < 65536 by omega); omega))
    · exact h
theorem putN_small {out : List Nat} (a b : List Nat) (i k : Nat) (h : Small out) : Small (putN a b out i k) := h.set _ _ (Nat.mod_lt _ (by omega))
theorem colTo_small {out : List Nat} (a b : List Nat) (i : Nat) (h : Small out) : ∀ k, Small (colTo a b out i k)
  | 0 => h
  | k + 1 => by rw [colTo]; exact carryN_small _ _ _ (putN_small a b i k (colTo_small a b i h k))
theorem rowTo_small (a b : List Nat) : ∀ i, Small (rowTo a b i)
  | 0 => Small.zeros _
  | i + 1 => by rw [rowTo]; exact colTo_small a b i (rowTo_small a b i) _
theorem timesN_len (a b : List Nat) : (timesN a b).length = a.length + b.length := rowTo_len a b _
theorem timesN_small (a b : List Nat) : Small (timesN a b) := rowTo_small a b _

theorem add64 (a b : Nat) : IntKind.u64.wrap ((a : Int) + (b : Int)) = (((a + b) % 18446744073709551616 : Nat) : Int) := by rw [IntKind.wrap_u64]; simp
theorem mul64 (a b : Nat) : IntKind.u64.wrap ((a : Int) * (b : Int)) = ((a * b % 18446744073709551616 : Nat) : Int) := by rw [IntKind.wrap_u64]; simp

set_option maxRecDepth 100000 in
set_option maxHeartbeats 4000000 in
theorem times_any (ga gb : Nat) (la lb : List Nat) (na nb : Nat) (w : World) (hna : na = la.length) (hnb : nb = lb.length) (hA : DgAt w ga la) (hB : DgAt w gb lb) (hna0 : 0 < na) (hna9 : na ≤ 9) (hnb9 : nb ≤ 9) :
    Calls Try.prog 33 #[.slice (some ⟨ga, 0, none⟩) na na, .slice (some ⟨gb, 0, none⟩) nb nb] w fun e w' =>
      ∃ g, e = .returned (.slice (some ⟨g, 0, none⟩) (na + nb) (na + nb)) ∧ w.heap.size ≤ g ∧ DgAt w' g (timesN la lb) ∧ Below w.heap.size w w' := by
  have HNA := Lib.hid hna
  have HNB := Lib.hid hnb
  have HA := Lib.hid hA
  have HB := Lib.hid hB
  have hga : ga < w.heap.size := hA.lt
  have hgb : gb < w.heap.size := hB.lt
  clear hna hnb hA hB
  obtain ⟨N, hN⟩ : ∃ N, N = na + nb := ⟨_, rfl⟩
  have hNi : (na : Int) + (nb : Int) = (N : Int) := by omega
  rw [← hN]
  have HN := Lib.hid hN
  have hN0 : 0 < N := by omega
  have hN18 : N ≤ 18 := by omega
  have HN0 := Lib.hid hN0
  have HN100 : Hid (N ≤ 100) := by show _ ≤ _; omega
  clear hN
  go_enter Try.func33, Try.ntmps33
  go_wp2_with ((with_reducible refine wpList_makeU rfl (.tmp 13) (.tmp 13) rfl N (N : Int) rfl rfl rfl HN100.out HN0.out ?_); intro w1 G hG hat1 hb1)
  have hgaG : ga ≠ G := by have := hG.out; omega
  have hgbG : gb ≠ G := by have := hG.out; omega
  have HA1 : Hid (∀ w', Kept (· = G) w1 w' → DgAt w' ga la) := fun w' h => (HA.out.later hb1.out hga).kept h hgaG
  have HB1 : Hid (∀ w', Kept (· = G) w1 w' → DgAt w' gb lb) := fun w' h => (HB.out.later hb1.out hgb).kept h hgbG
  clear hgaG hgbG hga hgb HA HB
  go_loopw [6, 7, 8] (fun i _ _ wr => ∃ t : Nat, t ≤ na ∧ i = .int .i64 (t : Int) ∧ DgAt wr G (rowTo la lb t) ∧ Kept (· = G) w1 wr) (fun i _ _ _ => na - (intOf i).toNat)
  case atStart => exact ⟨0, Nat.zero_le _, rfl, by rw [rowTo, ← HNA.out, ← HNB.out, ← HN.out]; exact hat1.out, Kept.refl _ _⟩
  case round =>
    clear hat1
    obtain ⟨t, ht, rfl, hat, hkp⟩ := hrel
    have HAT := Lib.hid hat
    have HKP := Lib.hid hkp
    clear hat hkp
    by_cases hlt : t < na
    · have htI : (t : Int) < (na : Int) := by omega
      have HOL : Hid ((rowTo la lb t).length = N) := by show _ = _; rw [rowTo_len, HN.out, HNA.out, HNB.out]
      have HOS : Hid (Small (rowTo la lb t)) := rowTo_small la lb t
      have HROW : Hid (rowTo la lb (t + 1) = colTo la lb (rowTo la lb t) t nb) := by show _ = _; rw [HNB.out]; rfl
      go_wp2_with fail
      generalize rowTo la lb t = out0 at *
      go_loopw [7, 8] (fun k _ wr => ∃ s : Nat, s ≤ nb ∧ k = .int .i64 (s : Int) ∧ DgAt wr G (colTo la lb out0 t s) ∧ Kept (· = G) w1 wr) (fun k _ _ => nb - (intOf k).toNat)
      case atStart => exact ⟨0, Nat.zero_le _, rfl, HAT.out, HKP.out⟩
      case round =>
        clear HAT HKP
        obtain ⟨s, hs, rfl, hat, hkp⟩ := hrel
        by_cases hlt2 : s < nb
        · have hsI : (s : Int) < (nb : Int) := by omega
          have hCL : (colTo la lb out0 t s).length = N := by rw [colTo_len]; exact HOL.out
          have hCS : Small (colTo la lb out0 t s) := colTo_small la lb t HOS.out s
          have HNX : Hid (carryN (la.length + lb.length) (putN la lb (colTo la lb out0 t s) t s) (t + s) = colTo la lb out0 t (s + 1)) := Lib.hid rfl
          obtain ⟨R, hRE⟩ : ∃ R, R = colTo la lb out0 t (s + 1) := ⟨_, rfl⟩
          rw [← hRE] at HNX
          have HRE := Lib.hid hRE
          clear hRE
          generalize colTo la lb out0 t s = cur at *
          obtain ⟨q, hq⟩ : ∃ q, q = t + s := ⟨_, rfl⟩
          have hqN : q < N := by have := HN.out; omega
          have hck := hat.cell (j := q) (by omega)
          have hfr := hat.free q
          have hxl := hCS.at q
          have HPUT : Hid (putN la lb cur t s = cur.set q ((cur.getD q 0 + la.getD t 0 * lb.getD s 0 % 18446744073709551616) % 18446744073709551616)) := by show _ = _; rw [hq]; rfl
          have CA : Hid (∀ w', Kept (· = G) wr w' → w'.cell? ⟨ga, t, none⟩ = some (.int .u64 ((la.getD t 0 : Nat) : Int))) := fun w' h => (HA1.out w' (hkp.trans h (fun i hi => .inl hi))).cell (by have := HNA.out; omega)
          have CB : Hid (∀ w', Kept (· = G) wr w' → w'.cell? ⟨gb, s, none⟩ = some (.int .u64 ((lb.getD s 0 : Nat) : Int))) := fun w' h => (HB1.out w' (hkp.trans h (fun i hi => .inl hi))).cell (by have := HNB.out; omega)
          have HAT := Lib.hid hat
          have HKP := Lib.hid hkp
          have HCL := Lib.hid hCL
          have HCS := Lib.hid hCS
          clear hat hkp hCL hCS
          generalize cur.getD q 0 = x at *
          generalize la.getD t 0 = xa at *
          generalize lb.getD s 0 = xb at *
          obtain ⟨m1, hm1⟩ : ∃ m, m = xa * xb % 18446744073709551616 := ⟨_, rfl⟩
          obtain ⟨y, hy⟩ : ∃ y, y = (x + m1) % 18446744073709551616 := ⟨_, rfl⟩
          rw [← hm1, ← hy] at HPUT
          have HYL : Hid (y < 18446744073709551616) := by show _ < _; rw [hy]; exact Nat.mod_lt _ (by omega)
          have M1 : Hid (IntKind.u64.wrap ((xa : Int) * (xb : Int)) = (m1 : Int)) := by show _ = _; rw [mul64, hm1]
          have A1 : Hid (IntKind.u64.wrap ((x : Int) + (m1 : Int)) = (y : Int)) := by show _ = _; rw [add64, hy]
          have IQ : Hid (IntKind.i64.wrap ((t : Int) + (s : Int)) = (q : Int)) := by show _ = _; rw [IntKind.wrap_i64]; omega
          have hqI : (q : Int) < (N : Int) := by omega
          have HTS : Hid ((t : Int) + (s : Int) = (q : Int)) := by show _ = _; omega
          have HQ := Lib.hid hq
          clear hm1 hy hq
          go_wp2_with fail
          refine hStart (fun w' => Kept (· = G) wr w') (by kernel_rfl) ?_
          have hHeld := Kept.drew (· = G) wr
          refine hTake 0 (v := ?_) rfl (by kernel_rfl) (by kernel_rfl) (by kernel_rfl) (fun _ _ _ h => h) (by rfl) ?_ hHeld ?_
          rotate_left
          · intro w hSw; (try dsimp only at hSw); go_simp; (try with_reducible rfl)
          try simp only [Act.put, List.setIfInBounds_toArray, List.set_cons_zero, List.set_cons_succ]
          refine hTake 1 (v := ?_) rfl (by kernel_rfl) (by kernel_rfl) (by kernel_rfl) (fun _ _ _ h => h) (by rfl) ?_ hHeld ?_
          rotate_left
          · intro w hSw; (try dsimp only at hSw); go_simp; (try with_reducible rfl)
          try simp only [Act.put, List.setIfInBounds_toArray, List.set_cons_zero, List.set_cons_succ]
          refine hTake 2 (v := ?_) rfl (by kernel_rfl) (by kernel_rfl) (by kernel_rfl) (fun _ _ _ h => h) (by rfl) ?_ hHeld ?_
          rotate_left
          · intro w hSw; (try dsimp only at hSw); go_simp; (try with_reducible rfl)
          try simp only [Act.put, List.setIfInBounds_toArray, List.set_cons_zero, List.set_cons_succ]
          refine hTake 4 (v := ?_) rfl (by kernel_rfl) (by kernel_rfl) (by kernel_rfl) (fun _ _ _ h => h) (by rfl) ?_ hHeld ?_
          rotate_left
          · intro w hSw; (try dsimp only at hSw); go_simp; (try with_reducible rfl)
          try simp only [Act.put, List.setIfInBounds_toArray, List.set_cons_zero, List.set_cons_succ]
          refine hTake 5 (v := ?_) rfl (by kernel_rfl) (by kernel_rfl) (by kernel_rfl) (fun _ _ _ h => h) (by rfl) ?_ hHeld ?_
          rotate_left
          · intro w hSw; (try dsimp only at hSw); go_simp; (try with_reducible rfl)
          try simp only [Act.put, List.setIfInBounds_toArray, List.set_cons_zero, List.set_cons_succ]
          refine hTake 6 (v := ?_) rfl (by kernel_rfl) (by kernel_rfl) (by kernel_rfl) (fun _ _ _ h => h) (by rfl) ?_ hHeld ?_
          rotate_left
          · intro w hSw; (try dsimp only at hSw); go_simp; (try with_reducible rfl)
          try simp only [Act.put, List.setIfInBounds_toArray, List.set_cons_zero, List.set_cons_succ]
          refine hTake 10 (v := ?_) rfl (by kernel_rfl) (by kernel_rfl) (by kernel_rfl) (fun _ _ _ h => h) (by rfl) ?_ hHeld ?_
          rotate_left
          · intro w hSw; (try dsimp only at hSw); go_simp; (try with_reducible rfl)
          try simp only [Act.put, List.setIfInBounds_toArray, List.set_cons_zero, List.set_cons_succ]
          refine hTake 11 (v := ?_) rfl (by kernel_rfl) (by kernel_rfl) (by kernel_rfl) (fun _ _ _ h => h) (by rfl) ?_ hHeld ?_
          rotate_left
          · intro w hSw; (try dsimp only at hSw); go_simp; (try with_reducible rfl)
          try simp only [Act.put, List.setIfInBounds_toArray, List.set_cons_zero, List.set_cons_succ]
          refine hTake 14 (v := ?_) rfl (by kernel_rfl) (by kernel_rfl) (by kernel_rfl) (fun _ _ _ h => h) (by rfl) ?_ hHeld ?_
          rotate_left
          · intro w hSw; (try dsimp only at hSw); go_simp; (try with_reducible rfl)
          try simp only [Act.put, List.setIfInBounds_toArray, List.set_cons_zero, List.set_cons_succ]
          refine hTake 15 (v := ?_) rfl (by kernel_rfl) (by kernel_rfl) (by kernel_rfl) (fun _ _ _ h => h) (by rfl) ?_ hHeld ?_
          rotate_left
          · intro w hSw; (try dsimp only at hSw); go_simp; (try with_reducible rfl)
          try simp only [Act.put, List.setIfInBounds_toArray, List.set_cons_zero, List.set_cons_succ]
          refine hTake 3 (v := (.int .i64 (q : Int))) rfl (by kernel_rfl) (by kernel_rfl) (by kernel_rfl) (fun _ _ _ h => h) (by rfl) ?_ hHeld ?_
          · intro w hSw; have h1 := IQ.out; go_simp; (try with_reducible rfl)
          try simp only [Act.put, List.setIfInBounds_toArray, List.set_cons_zero, List.set_cons_succ]
          refine hTake 7 (v := (.int .i64 (q : Int))) rfl (by kernel_rfl) (by kernel_rfl) (by kernel_rfl) (fun _ _ _ h => h) (by rfl) ?_ hHeld ?_
          · intro w hSw; have h1 := IQ.out; go_simp; (try with_reducible rfl)
          try simp only [Act.put, List.setIfInBounds_toArray, List.set_cons_zero, List.set_cons_succ]
          refine hTake 8 (v := ?_) rfl (by kernel_rfl) (by kernel_rfl) (by kernel_rfl) (fun _ _ _ h => h) (by rfl) ?_ hHeld ?_
          rotate_left
          · intro w hSw; (try dsimp only at hSw); go_simp; (try with_reducible rfl)
          try simp only [Act.put, List.setIfInBounds_toArray, List.set_cons_zero, List.set_cons_succ]
          refine hTake 12 (v := ?_) rfl (by kernel_rfl) (by kernel_rfl) (by kernel_rfl) (fun _ _ _ h => h) (by rfl) ?_ hHeld ?_
          rotate_left
          · intro w hSw; (try dsimp only at hSw); go_simp; (try with_reducible rfl)
          try simp only [Act.put, List.setIfInBounds_toArray, List.set_cons_zero, List.set_cons_succ]
          refine hTake 16 (v := ?_) rfl (by kernel_rfl) (by kernel_rfl) (by kernel_rfl) (fun _ _ _ h => h) (by rfl) ?_ hHeld ?_
          rotate_left
          · intro w hSw; (try dsimp only at hSw); go_simp; (try with_reducible rfl)
          try simp only [Act.put, List.setIfInBounds_toArray, List.set_cons_zero, List.set_cons_succ]
          refine hTake 13 (v := (.int .u64 (xa : Int))) rfl (by kernel_rfl) (by kernel_rfl) (by kernel_rfl) (fun _ _ _ h => h) (by rfl) ?_ hHeld ?_
          · intro w hSw; have h1 := CA.out w hSw; go_simp; (try with_reducible rfl)
          try simp only [Act.put, List.setIfInBounds_toArray, List.set_cons_zero, List.set_cons_succ]
          refine hTake 17 (v := (.int .u64 (xb : Int))) rfl (by kernel_rfl) (by kernel_rfl) (by kernel_rfl) (fun _ _ _ h => h) (by rfl) ?_ hHeld ?_
          · intro w hSw; have h1 := CB.out w hSw; go_simp; (try with_reducible rfl)
          try simp only [Act.put, List.setIfInBounds_toArray, List.set_cons_zero, List.set_cons_succ]
          refine hTake 18 (v := (.int .u64 (m1 : Int))) rfl (by kernel_rfl) (by kernel_rfl) (by kernel_rfl) (fun _ _ _ h => h) (by rfl) ?_ hHeld ?_
          · intro w hSw; have h1 := M1.out; go_simp; (try with_reducible rfl)
          try simp only [Act.put, List.setIfInBounds_toArray, List.set_cons_zero, List.set_cons_succ]
          refine hStep 9 rfl (by kernel_rfl) (by rfl) (fun K hK => ?_)
          have HK := Lib.hid hK
          clear hK
          go_simp
          have hHeldN := hHeld
          refine HK.out _ _ hHeldN ?_
          clear HK K hHeld
          have hHeld := hHeldN
          clear hHeldN
          try simp only [Act.put, List.setIfInBounds_toArray, List.set_cons_zero, List.set_cons_succ]
          refine hTake 19 (v := (.int .u64 (y : Int))) rfl (by kernel_rfl) (by kernel_rfl) (by kernel_rfl) (fun _ _ _ h => h) (by rfl) ?_ hHeld ?_
          · intro w hSw; have h1 := A1.out; go_simp; (try with_reducible rfl)
          try simp only [Act.put, List.setIfInBounds_toArray, List.set_cons_zero, List.set_cons_succ]
          refine hTake 20 (v := ?_) rfl (by kernel_rfl) (by kernel_rfl) (by kernel_rfl) (fun _ _ _ h => h) (by rfl) ?_ hHeld ?_
          rotate_left
          · intro w hSw; (try dsimp only at hSw); go_simp; (try with_reducible rfl)
          try simp only [Act.put, List.setIfInBounds_toArray, List.set_cons_zero, List.set_cons_succ]
          refine hStep 21 rfl (by kernel_rfl) (by rfl) (fun K hK => ?_)
          have HK := Lib.hid hK
          clear hK
          go_simp
          have hKF : Kept (· = G) wr (wr.setCell ⟨G, q, none⟩ (.int .u64 (y : Int))).drew := (Kept.setCell (T := (· = G)) _ _ _ rfl).trans (Kept.drew (· = G) _) (fun i hi => .inl hi)
          have hHeldN := hKF
          refine HK.out _ _ hHeldN ?_
          clear HK K hHeld
          have hHeld := hHeldN
          clear hHeldN
          try simp only [Act.put]
          refine hDone (by kernel_rfl) ?_
          show NoPanic _ _ _ _
          refine NoPanic.normal ?_
          have hat2 : DgAt (wr.setCell ⟨G, q, none⟩ (.int .u64 (y : Int))).drew G (cur.set q y) := HAT.out.set q y
          obtain ⟨w2, hw2⟩ : ∃ w2, w2 = (wr.setCell ⟨G, q, none⟩ (.int .u64 (y : Int))).drew := ⟨_, rfl⟩
          rw [← hw2] at hHeld hat2 ⊢
          have HAT2 := Lib.hid hat2
          have HKP2 := Lib.hid (HKP.out.trans hHeld (fun i hi => .inl hi))
          have HSM2 : Hid (Small (cur.set q y)) := HCS.out.set q y HYL.out
          have HLL2 : Hid ((cur.set q y).length = N) := by show _ = _; rw [List.length_set]; exact HCL.out
          have HR2 : Hid (carryN N (cur.set q y) q = R) := by
            show _ = _
            rw [← HNX.out, HPUT.out, ← HQ.out, ← HNA.out, ← HNB.out, ← HN.out]
          have hts := HTS.out
          clear hHeld hKF hat2 hw2 HAT HKP HPUT hck hfr
          go_wp2_with fail
          clear hts
          go_loopw [8] (fun j wr => ∃ (p f : Nat) (L : List Nat), j = .int .i64 (p : Int) ∧ p < N ∧ L.length = N ∧ Small L ∧ carryN f L p = R ∧ N ≤ f + p + 1 ∧ DgAt wr G L ∧ Kept (· = G) w1 wr) (fun j _ => N - (intOf j).toNat)
          case atStart => exact ⟨q, N, _, rfl, hqN, HLL2.out, HSM2.out, HR2.out, by omega, HAT2.out, HKP2.out⟩
          case round =>
            clear HR2 HAT2 HKP2 HSM2 HLL2 HCL HCS M1 A1 CA CB HNX IQ HQ HTS HYL hqI hqN hxl
            obtain ⟨p, f, L, rfl, hp, hLl, hLs, hR, hf, hat, hkp⟩ := hrel
            have HAT := Lib.hid hat
            have HKP := Lib.hid hkp
            have HLL := Lib.hid hLl
            have HLP : Hid (p < L.length) := by show _ < _; omega
            have hck := hat.cell (j := p) (by omega)
            have hfr := hat.free
            have hxl := hLs.at p
            by_cases hc : 65536 ≤ L.getD p 0 ∧ p + 1 < N
            · cases f with
              | zero => exfalso; omega
              | succ f =>
              rw [carryN, if_pos (by rw [hLl]; exact hc)] at hR
              obtain ⟨hc1, hc2⟩ := hc
              have hck1 := hat.cell (j := p + 1) (by omega)
              have hyl := hLs.at (p + 1)
              have HSM : Hid (Small ((L.set (p + 1) ((L.getD (p + 1) 0 + L.getD p 0 / 65536) % 18446744073709551616)).set p (L.getD p 0 % 65536))) :=
                (hLs.set _ _ (Nat.mod_lt _ (by omega))).set _ _ (by have := Nat.mod_lt (L.getD p 0) (show 0 < 65536 by omega); omega)
              obtain ⟨p1, hp1⟩ : ∃ p1, p1 = p + 1 := ⟨_, rfl⟩
              have HGX0 : ∀ z, (L.set p1 z).getD p 0 = L.getD p 0 := fun z => by
                rw [List.getD, List.getElem?_set_ne (by omega)]; rfl
              rw [← hp1] at hR hck1 HSM hyl hc2
              generalize L.getD p 0 = x at *
              generalize L.getD p1 0 = y at *
              obtain ⟨xq, hxq⟩ : ∃ v, v = x / 65536 := ⟨_, rfl⟩
              obtain ⟨xr, hxr⟩ : ∃ v, v = x % 65536 := ⟨_, rfl⟩
              obtain ⟨z, hz⟩ : ∃ v, v = (y + xq) % 18446744073709551616 := ⟨_, rfl⟩
              rw [← hxq, ← hxr, ← hz] at hR HSM
              have HGX := Lib.hid (HGX0 z)
              have HR := Lib.hid hR
              have HXQ : Hid ((x : Int) / 65536 = (xq : Int)) := by show _ = _; omega
              have HXR : Hid ((x : Int) % 65536 = (xr : Int)) := by show _ = _; omega
              have HZ : Hid (IntKind.u64.wrap ((y : Int) + (xq : Int)) = (z : Int)) := by show _ = _; rw [add64, hz]
              have HP1 : Hid ((p1 : Int) = (p : Int) + 1) := by show _ = _; omega
              have HPP := Lib.hid hp1
              have IP : Hid (IntKind.i64.wrap ((p : Int) + 1) = (p1 : Int)) := by show _ = _; rw [IntKind.wrap_i64]; omega
              have hp1N : (p1 : Int) < (N : Int) := by omega
              have hpN : (p : Int) < (N : Int) := by omega
              have hpn1 : (p : Int) + 1 < (N : Int) := by omega
              have hxI : (65536 : Int) ≤ (x : Int) := by omega
              have HLP2 : Hid (p < (L.set p1 z).length) := by show _ < _; rw [List.length_set]; exact HLP.out
              have hxqx : xq ≤ x := by omega
              clear HGX0 hR hat hkp hxq hxr hz hp1 hLl hLs
              go_wp2_with fail
              refine hStart (fun w' => True) (by kernel_rfl) ?_
              have hHeld := True.intro
              have hckd : wr.drew.cell? ⟨G, p, none⟩ = some (.int .u64 (x : Int)) := hck
              have hck1d : wr.drew.cell? ⟨G, p1, none⟩ = some (.int .u64 (y : Int)) := hck1
              have hfrd : wr.drew.frozen? ⟨G, p1, none⟩ = false := hfr p1
              refine hTake 0 (v := ?_) rfl (by kernel_rfl) (by kernel_rfl) (by kernel_rfl) (fun _ _ _ h => h) (by rfl) ?_ hHeld ?_
              rotate_left
              · intro w hSw; (try dsimp only at hSw); go_simp; (try with_reducible rfl)
              try simp only [Act.put, List.setIfInBounds_toArray, List.set_cons_zero, List.set_cons_succ]
              refine hTake 1 (v := ?_) rfl (by kernel_rfl) (by kernel_rfl) (by kernel_rfl) (fun _ _ _ h => h) (by rfl) ?_ hHeld ?_
              rotate_left
              · intro w hSw; (try dsimp only at hSw); go_simp; (try with_reducible rfl)
              try simp only [Act.put, List.setIfInBounds_toArray, List.set_cons_zero, List.set_cons_succ]
              refine hTake 3 (v := ?_) rfl (by kernel_rfl) (by kernel_rfl) (by kernel_rfl) (fun _ _ _ h => h) (by rfl) ?_ hHeld ?_
              rotate_left
              · intro w hSw; (try dsimp only at hSw); go_simp; (try with_reducible rfl)
              try simp only [Act.put, List.setIfInBounds_toArray, List.set_cons_zero, List.set_cons_succ]
              refine hTake 4 (v := ?_) rfl (by kernel_rfl) (by kernel_rfl) (by kernel_rfl) (fun _ _ _ h => h) (by rfl) ?_ hHeld ?_
              rotate_left
              · intro w hSw; (try dsimp only at hSw); go_simp; (try with_reducible rfl)
              try simp only [Act.put, List.setIfInBounds_toArray, List.set_cons_zero, List.set_cons_succ]
              refine hTake 8 (v := ?_) rfl (by kernel_rfl) (by kernel_rfl) (by kernel_rfl) (fun _ _ _ h => h) (by rfl) ?_ hHeld ?_
              rotate_left
              · intro w hSw; (try dsimp only at hSw); go_simp; (try with_reducible rfl)
              try simp only [Act.put, List.setIfInBounds_toArray, List.set_cons_zero, List.set_cons_succ]
              refine hTake 9 (v := ?_) rfl (by kernel_rfl) (by kernel_rfl) (by kernel_rfl) (fun _ _ _ h => h) (by rfl) ?_ hHeld ?_
              rotate_left
              · intro w hSw; (try dsimp only at hSw); go_simp; (try with_reducible rfl)
              try simp only [Act.put, List.setIfInBounds_toArray, List.set_cons_zero, List.set_cons_succ]
              refine hTake 2 (v := (.int .i64 (p1 : Int))) rfl (by kernel_rfl) (by kernel_rfl) (by kernel_rfl) (fun _ _ _ h => h) (by rfl) ?_ hHeld ?_
              · intro w hSw; have h1 := IP.out; go_simp; (try with_reducible rfl)
              try simp only [Act.put, List.setIfInBounds_toArray, List.set_cons_zero, List.set_cons_succ]
              refine hTake 5 (v := (.int .i64 (p1 : Int))) rfl (by kernel_rfl) (by kernel_rfl) (by kernel_rfl) (fun _ _ _ h => h) (by rfl) ?_ hHeld ?_
              · intro w hSw; have h1 := IP.out; go_simp; (try with_reducible rfl)
              try simp only [Act.put, List.setIfInBounds_toArray, List.set_cons_zero, List.set_cons_succ]
              refine hTake 6 (v := ?_) rfl (by kernel_rfl) (by kernel_rfl) (by kernel_rfl) (fun _ _ _ h => h) (by rfl) ?_ hHeld ?_
              rotate_left
              · intro w hSw; (try dsimp only at hSw); go_simp; (try with_reducible rfl)
              try simp only [Act.put, List.setIfInBounds_toArray, List.set_cons_zero, List.set_cons_succ]
              refine hTake 10 (v := ?_) rfl (by kernel_rfl) (by kernel_rfl) (by kernel_rfl) (fun _ _ _ h => h) (by rfl) ?_ hHeld ?_
              rotate_left
              · intro w hSw; (try dsimp only at hSw); go_simp; (try with_reducible rfl)
              try simp only [Act.put, List.setIfInBounds_toArray, List.set_cons_zero, List.set_cons_succ]
              have hxqw : IntKind.u64.wrap (xq : Int) = (xq : Int) := by rw [IntKind.wrap_u64]; omega
              refine hAll2 7 11 rfl rfl (by kernel_rfl) (by rfl) (by rfl) (fun K hK => ?_) (fun K hK => ?_)
              · have HK := Lib.hid hK
                clear hK
                go_simp
                have hHeldN := True.intro
                refine HK.out _ _ hHeldN ?_
                clear HK K hHeld
                have hHeld := hHeldN
                clear hHeldN
                try simp only [Act.put, List.setIfInBounds_toArray, List.set_cons_zero, List.set_cons_succ]
                refine hStep 11 rfl (by kernel_rfl) (by rfl) (fun K hK => ?_)
                have HK := Lib.hid hK
                clear hK
                go_simp
                have hHeldN := True.intro
                refine HK.out _ _ hHeldN ?_
                clear HK K hHeld
                have hHeld := hHeldN
                clear hHeldN
                try simp only [Act.put, List.setIfInBounds_toArray, List.set_cons_zero, List.set_cons_succ]
                refine hTake 12 (v := (.int .u64 (xq : Int))) rfl (by kernel_rfl) (by kernel_rfl) (by kernel_rfl) (fun _ _ _ h => h) (by rfl) ?_ hHeld ?_
                · intro w hSw; have h1 := HXQ.out; go_simp; (try with_reducible rfl)
                try simp only [Act.put, List.setIfInBounds_toArray, List.set_cons_zero, List.set_cons_succ]
                refine hTake 13 (v := (.int .u64 (z : Int))) rfl (by kernel_rfl) (by kernel_rfl) (by kernel_rfl) (fun _ _ _ h => h) (by rfl) ?_ hHeld ?_
                · intro w hSw; have h1 := HZ.out; go_simp; (try with_reducible rfl)
                try simp only [Act.put, List.setIfInBounds_toArray, List.set_cons_zero, List.set_cons_succ]
                refine hTake 14 (v := ?_) rfl (by kernel_rfl) (by kernel_rfl) (by kernel_rfl) (fun _ _ _ h => h) (by rfl) ?_ hHeld ?_
                rotate_left
                · intro w hSw; (try dsimp only at hSw); go_simp; (try with_reducible rfl)
                try simp only [Act.put, List.setIfInBounds_toArray, List.set_cons_zero, List.set_cons_succ]
                refine hStep 15 rfl (by kernel_rfl) (by rfl) (fun K hK => ?_)
                have HK := Lib.hid hK
                clear hK
                go_simp
                have hHeldN := True.intro
                refine HK.out _ _ hHeldN ?_
                clear HK K hHeld
                have hHeld := hHeldN
                clear hHeldN
                try simp only [Act.put]
                refine hDone (by kernel_rfl) ?_
                show NoPanic _ _ _ _
                refine NoPanic.normal ?_
                have hat2 : DgAt (wr.setCell ⟨G, p1, none⟩ (.int .u64 (z : Int))).drew G (L.set p1 z) := HAT.out.set p1 z
                have hk2 : Kept (· = G) wr (wr.setCell ⟨G, p1, none⟩ (.int .u64 (z : Int))).drew := (Kept.setCell (T := (· = G)) _ _ _ rfl).trans (Kept.drew (· = G) _) (fun i hi => .inl hi)
                obtain ⟨w2, hw2⟩ : ∃ w2, w2 = (wr.setCell ⟨G, p1, none⟩ (.int .u64 (z : Int))).drew := ⟨_, rfl⟩
                rw [← hw2] at hat2 hk2 ⊢
                have HAT2 := Lib.hid hat2
                have HKP2 := Lib.hid (HKP.out.trans hk2 (fun i hi => .inl hi))
                have hcx : w2.cell? ⟨G, p, none⟩ = some (.int .u64 (x : Int)) := by
                  have h := hat2.cell (j := p) (by rw [List.length_set]; exact HLP.out)
                  rw [HGX.out] at h; exact h
                clear hw2 hat2 hk2 hck hck1 hfr
                go_wp2_with (first
                  | ((with_reducible refine wpList_storeU1 rfl (.tmp 87) (.tmp 86) rfl p rfl xr rfl HXR.out HAT2.out HLP2.out ?_); intro w3 ha3 hk3; (try simp only [Act.put])))
                go_roundw
                case rel => exact ⟨p1, f, _, by rw [← HP1.out], by omega, by rw [List.length_set, List.length_set]; exact HLL.out, HSM.out, HR.out, by have := HPP.out; omega, ha3.out, HKP2.out.trans hk3.out (fun i hi => .inl hi)⟩
                case measure => simp [intOf] <;> omega
              · have HK := Lib.hid hK
                clear hK
                go_simp
                have hHeldN := True.intro
                refine HK.out _ _ hHeldN ?_
                clear HK K hHeld
                have hHeld := hHeldN
                clear hHeldN
                try simp only [Act.put, List.setIfInBounds_toArray, List.set_cons_zero, List.set_cons_succ]
                refine hTake 12 (v := (.int .u64 (xq : Int))) rfl (by kernel_rfl) (by kernel_rfl) (by kernel_rfl) (fun _ _ _ h => h) (by rfl) ?_ hHeld ?_
                · intro w hSw; have h1 := HXQ.out; go_simp; (try with_reducible rfl)
                try simp only [Act.put, List.setIfInBounds_toArray, List.set_cons_zero, List.set_cons_succ]
                refine hStep 7 rfl (by kernel_rfl) (by rfl) (fun K hK => ?_)
                have HK := Lib.hid hK
                clear hK
                go_simp
                have hHeldN := True.intro
                refine HK.out _ _ hHeldN ?_
                clear HK K hHeld
                have hHeld := hHeldN
                clear hHeldN
                try simp only [Act.put, List.setIfInBounds_toArray, List.set_cons_zero, List.set_cons_succ]
                refine hTake 13 (v := (.int .u64 (z : Int))) rfl (by kernel_rfl) (by kernel_rfl) (by kernel_rfl) (fun _ _ _ h => h) (by rfl) ?_ hHeld ?_
                · intro w hSw; have h1 := HZ.out; go_simp; (try with_reducible rfl)
                try simp only [Act.put, List.setIfInBounds_toArray, List.set_cons_zero, List.set_cons_succ]
                refine hTake 14 (v := ?_) rfl (by kernel_rfl) (by kernel_rfl) (by kernel_rfl) (fun _ _ _ h => h) (by rfl) ?_ hHeld ?_
                rotate_left
                · intro w hSw; (try dsimp only at hSw); go_simp; (try with_reducible rfl)
                try simp only [Act.put, List.setIfInBounds_toArray, List.set_cons_zero, List.set_cons_succ]
                refine hStep 15 rfl (by kernel_rfl) (by rfl) (fun K hK => ?_)
                have HK := Lib.hid hK
                clear hK
                go_simp
                have hHeldN := True.intro
                refine HK.out _ _ hHeldN ?_
                clear HK K hHeld
                have hHeld := hHeldN
                clear hHeldN
                try simp only [Act.put]
                refine hDone (by kernel_rfl) ?_
                show NoPanic _ _ _ _
                refine NoPanic.normal ?_
                have hat2 : DgAt (wr.setCell ⟨G, p1, none⟩ (.int .u64 (z : Int))).drew G (L.set p1 z) := HAT.out.set p1 z
                have hk2 : Kept (· = G) wr (wr.setCell ⟨G, p1, none⟩ (.int .u64 (z : Int))).drew := (Kept.setCell (T := (· = G)) _ _ _ rfl).trans (Kept.drew (· = G) _) (fun i hi => .inl hi)
                obtain ⟨w2, hw2⟩ : ∃ w2, w2 = (wr.setCell ⟨G, p1, none⟩ (.int .u64 (z : Int))).drew := ⟨_, rfl⟩
                rw [← hw2] at hat2 hk2 ⊢
                have HAT2 := Lib.hid hat2
                have HKP2 := Lib.hid (HKP.out.trans hk2 (fun i hi => .inl hi))
                have hcx : w2.cell? ⟨G, p, none⟩ = some (.int .u64 (x : Int)) := by
                  have h := hat2.cell (j := p) (by rw [List.length_set]; exact HLP.out)
                  rw [HGX.out] at h; exact h
                clear hw2 hat2 hk2 hck hck1 hfr
                go_wp2_with (first
                  | ((with_reducible refine wpList_storeU1 rfl (.tmp 87) (.tmp 86) rfl p rfl xr rfl HXR.out HAT2.out HLP2.out ?_); intro w3 ha3 hk3; (try simp only [Act.put])))
                go_roundw
                case rel => exact ⟨p1, f, _, by rw [← HP1.out], by omega, by rw [List.length_set, List.length_set]; exact HLL.out, HSM.out, HR.out, by have := HPP.out; omega, ha3.out, HKP2.out.trans hk3.out (fun i hi => .inl hi)⟩
                case measure => simp [intOf] <;> omega
            · have HRL : Hid (L = R) := by
                show _ = _
                rw [← hR]
                cases f with
                | zero => rfl
                | succ f => rw [carryN, if_neg (by rw [hLl]; exact hc)]
              clear hR
              generalize L.getD p 0 = x at *
              have HF : Hid (DgAt wr G R ∧ Kept (· = G) w1 wr) := ⟨by rw [← HRL.out]; exact hat, hkp⟩
              clear hat hkp
              by_cases hx65 : 65536 ≤ x
              · have hxI : (65536 : Int) ≤ (x : Int) := by omega
                have hpn1 : ¬ (p : Int) + 1 < (N : Int) := by omega
                have hpN : (p : Int) < (N : Int) := by omega
                go_wp2
                go_roundw
                case rel => exact ⟨s + 1, by omega, by go_num, by rw [← HRE.out]; exact HF.out.1, HF.out.2⟩
                case measure => simp [intOf] <;> omega
              · have hxI : ¬ (65536 : Int) ≤ (x : Int) := by omega
                have hpN : (p : Int) < (N : Int) := by omega
                go_wp2
                go_roundw
                case rel => exact ⟨s + 1, by omega, by go_num, by rw [← HRE.out]; exact HF.out.1, HF.out.2⟩
                case measure => simp [intOf] <;> omega
        · obtain rfl : s = nb := by omega
          go_wp2
          go_roundw
          case rel => exact ⟨t + 1, by omega, by go_num, by rw [HROW.out]; exact hat, hkp⟩
          case measure => simp [intOf] <;> omega
    · obtain rfl : t = na := by omega
      have HF : Hid (DgAt wr G (timesN la lb)) := by show DgAt _ _ _; unfold timesN; rw [← HNA.out]; exact HAT.out
      have HBF : Hid (Below w.heap.size w wr) := hb1.out.trans (HKP.out.below hb1.out.size (fun i hi => by have := hG.out; omega))
      have HGG : Hid (w.heap.size ≤ G) := by show _ ≤ _; have := hG.out; omega
      go_wp2
      go_ret
      exact ⟨_, rfl, HGG.out, HF.out, HBF.out⟩
end Go.Proofs.Ytegeglnfpddgfaa
