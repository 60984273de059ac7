/- The walks of the document's root, Root, Begin. -/
import Derived.Test.YtegeglnfpddgfaaShaRAbove
namespace Go.Proofs.Ytegeglnfpddgfaa
open Go.RowKit

theorem rootTo_le (p n : Nat) : ∀ k, k ≤ 37 → rootTo p n k + 2 ^ (37 - k) ≤ 2 ^ 37
  | 0, _ => by simp [rootTo]
  | k + 1, h => by
    have h1 := rootTo_le p n k (by omega)
    have h2 : 2 ^ (37 - k) = 2 ^ (36 - k) + 2 ^ (36 - k) := by rw [show 37 - k = (36 - k) + 1 by omega, Nat.pow_succ]; omega
    have h3 : 0 < 2 ^ (36 - k) := Nat.two_pow_pos _
    rw [rootTo, show 37 - (k + 1) = 36 - k by omega]
    split <;> omega
theorem digitsN_len (v : Nat) : (digitsN v).length = 3 := rfl
theorem digitsN_small (v : Nat) : Small (digitsN v) := by
  intro x hx
  simp only [digitsN, List.mem_cons, List.mem_nil_iff, or_false] at hx
  rcases hx with rfl | rfl | rfl
  · have := Nat.mod_lt v (show 0 < 65536 by omega); omega
  · have := Nat.mod_lt (v / 65536) (show 0 < 65536 by omega); omega
  · have := Nat.mod_lt (v / 4294967296) (show 0 < 65536 by omega); omega

set_option maxRecDepth 100000 in
set_option maxHeartbeats 2000000 in
theorem root_any (p n : Nat) (w : World) (hp : p ≤ 311) (hn : n = 2 ∨ n = 3) :
    Calls Try.prog 22 #[.int .i64 (p : Int), .int .i64 (n : Int)] w fun e w' => e = .returned (.int .u32 ((rootN p n : Nat) : Int)) ∧ Below w.heap.size w w' := by
  obtain ⟨z, hz⟩ : ∃ z, z = 2 * n := ⟨_, rfl⟩
  have hzi : 2 * (n : Int) = (z : Int) := by omega
  have hz6 : z ≤ 6 := by omega
  have HZ := Lib.hid hz
  have HN := Lib.hid hn
  have hn3 : n ≤ 3 := by omega
  clear hz hn
  go_enter Try.func22, Try.ntmps22
  go_wp2
  go_loopw [5, 6, 7, 8, 9] (fun v b _ _ _ wr => ∃ k : Nat, k ≤ 37 ∧ b = .int .i64 (36 - (k : Int)) ∧ v = .int .u64 ((rootTo p n k : Nat) : Int) ∧ Below w.heap.size w wr) (fun _ b _ _ _ _ => (intOf b + 1).toNat)
  case atStart => exact ⟨0, Nat.zero_le _, rfl, rfl, Below.refl _ _⟩
  case round =>
    obtain ⟨k, hk, rfl, rfl, hbr⟩ := hrel
    have hle := rootTo_le p n k hk
    have HBR := Lib.hid hbr
    clear hbr
    by_cases hlt : k < 37
    · obtain ⟨b, hb⟩ : ∃ b, b = 36 - k := ⟨_, rfl⟩
      have hbi : 36 - (k : Int) = (b : Int) := by omega
      rw [hbi]
      have HST : Hid (rootTo p n (k + 1) = if aboveN (allN (rootTo p n k + 2 ^ b) n) p (2 * n) then rootTo p n k else rootTo p n k + 2 ^ b) := by show _ = _; rw [rootTo, hb]
      have hpw : rootTo p n k + 2 ^ b ≤ 2 ^ 37 := by
        have h2 : 2 ^ (37 - k) = 2 ^ b + 2 ^ b := by rw [hb, show 37 - k = (36 - k) + 1 by omega, Nat.pow_succ]; omega
        have h3 : 0 < 2 ^ b := Nat.two_pow_pos _
        omega
      have hpw2 : rootTo p n k + 2 ^ b ≤ 137438953472 := hpw
      rw [← HZ.out] at HST
      have hb36 : b ≤ 36 := by omega
      have hbk : (b : Int) - 1 = 36 - ((k + 1 : Nat) : Int) := by omega
      have HBK := Lib.hid hbk
      clear hpw hle hb hbk hbi
      obtain ⟨V, hV⟩ : ∃ V, V = rootTo p n k := ⟨_, rfl⟩
      rw [← hV] at HST hpw2 ⊢
      clear hV
      go_wp2_with fail
      refine (pow_any b _ hb36).mono ?_
      rintro e w1 ⟨rfl, rfl⟩
      obtain ⟨nx, hnx⟩ : ∃ nx, nx = V + 2 ^ b := ⟨_, rfl⟩
      have hnxi : (V : Int) + ((2 ^ b : Nat) : Int) = (nx : Int) := by omega
      rw [← hnx] at HST hpw2
      generalize 2 ^ b = PB at *
      have hPB : PB ≤ nx := by omega
      clear hnx
      go_wp2_with fail
      refine (digits_any nx _ (by omega)).mono ?_
      rintro e w2 ⟨g, rfl, hg, hat, hb2⟩
      have HB2 := Lib.hid (HBR.out.trans (hb2.mono HBR.out.size))
      have HG := Lib.hid hat
      clear hat hb2 hg hnxi
      go_wp2_with fail
      refine (times_any g g (digitsN nx) (digitsN nx) 3 3 _ rfl rfl HG.out HG.out (by omega) (by omega) (by omega)).mono ?_
      rintro e w3 ⟨g3, rfl, hg3, hat3, hb3⟩
      have HG2 := Lib.hid (HG.out.below hb3)
      have HB3 := Lib.hid (HB2.out.trans (hb3.mono HB2.out.size))
      have HG3 := Lib.hid hat3
      clear hat3 hb3 hg3 HG HB2
      have HTAIL : ∀ (ga na : Nat) (l : List Nat) (w4 : World), na = l.length → DgAt w4 ga l → Small l → z < na → na ≤ 20 → l = allN nx n →
          Calls Try.prog 34 #[.slice (some ⟨ga, 0, none⟩) na na, .int .u64 (p : Int), .int .i64 (z : Int)] w4 fun e w' => e = .returned (.bool (aboveN (allN nx n) p z)) ∧ w4 = w' := fun ga na l w4 h1 h2 h3 h4 h5 h6 => by
        rw [← h6]; exact above_any ga l na p z w4 h1 h2 h3 h4 h5
      have HT := Lib.hid HTAIL
      clear HTAIL
      have hzn := HZ.out
      by_cases hn3 : n = 3
      · have hne : ((n : Int) == 3) = true := by rw [beq_iff_eq]; omega
        have HALL : Hid (timesN (timesN (digitsN nx) (digitsN nx)) (digitsN nx) = allN nx n) := by show _ = _; unfold allN; rw [if_pos hn3]
        have HZ9 : Hid (z < 9) := by show _ < _; omega
        clear hzn hn3
        go_wp2_with fail
        refine (times_any g3 g (timesN (digitsN nx) (digitsN nx)) (digitsN nx) 6 3 _ (by rw [timesN_len]; rfl) rfl HG3.out HG2.out (by omega) (by omega) (by omega)).mono ?_
        rintro e w4 ⟨g4, rfl, hg4, hat4, hb4⟩
        have HB4 := Lib.hid (HB3.out.trans (hb4.mono HB3.out.size))
        have HG4 := Lib.hid hat4
        clear hat4 hb4 hg4
        go_wp2_with fail
        refine (HT.out g4 9 _ _ (by rw [timesN_len, timesN_len]; rfl) HG4.out (timesN_small _ _) HZ9.out (by omega) HALL.out).mono ?_
        rintro e w5 ⟨rfl, rfl⟩
        cases hab : aboveN (allN nx n) p z with
        | true =>
          rw [hab] at HST
          have HS2 : Hid (rootTo p n (k + 1) = V) := HST.out
          go_wp2_with fail
          go_roundw
          case rel => exact ⟨k + 1, by omega, by rw [← HBK.out], by rw [HS2.out], HB4.out⟩
          case measure => simp [intOf] <;> omega
        | false =>
          rw [hab] at HST
          have HS2 : Hid (rootTo p n (k + 1) = nx) := HST.out
          go_wp2_with fail
          go_roundw
          case rel => exact ⟨k + 1, by omega, by rw [← HBK.out], by rw [HS2.out], HB4.out⟩
          case measure => simp [intOf] <;> omega
      · have hne : ((n : Int) == 3) = false := by rw [beq_eq_false_iff_ne]; omega
        have HALL : Hid (timesN (digitsN nx) (digitsN nx) = allN nx n) := by show _ = _; unfold allN; rw [if_neg hn3]
        have HZ9 : Hid (z < 6) := by show _ < _; have := HN.out; omega
        clear hzn hn3
        go_wp2_with fail
        refine (HT.out g3 6 _ _ (by rw [timesN_len]; rfl) HG3.out (timesN_small _ _) HZ9.out (by omega) HALL.out).mono ?_
        rintro e w5 ⟨rfl, rfl⟩
        cases hab : aboveN (allN nx n) p z with
        | true =>
          rw [hab] at HST
          have HS2 : Hid (rootTo p n (k + 1) = V) := HST.out
          go_wp2_with fail
          go_roundw
          case rel => exact ⟨k + 1, by omega, by rw [← HBK.out], by rw [HS2.out], HB3.out⟩
          case measure => simp [intOf] <;> omega
        | false =>
          rw [hab] at HST
          have HS2 : Hid (rootTo p n (k + 1) = nx) := HST.out
          go_wp2_with fail
          go_roundw
          case rel => exact ⟨k + 1, by omega, by rw [← HBK.out], by rw [HS2.out], HB3.out⟩
          case measure => simp [intOf] <;> omega
    · have hk37 : k = 37 := by omega
      have HR : Hid (rootN p n = rootTo p n k % 4294967296) := by show _ = _; rw [hk37]; rfl
      rw [show (Value.int IntKind.i64 (36 - (k : Int))) = Value.int IntKind.i64 (-1) by rw [hk37]; rfl]
      clear hk37 hlt
      have hVl : rootTo p n k ≤ 137438953472 := by have h3 : 0 < 2 ^ (37 - k) := Nat.two_pow_pos _
                                                   have : rootTo p n k ≤ 2 ^ 37 := by omega
                                                   exact this
      generalize rootTo p n k = V at *
      go_wp2
      go_ret
      exact ⟨ret_int (by rw [HR.out]; simp), HBR.out⟩

set_option maxRecDepth 100000 in
theorem refRoot_any (i : Nat) (w : World) (hi : i < 64) :
    Calls Try.prog 9 #[.int .i64 (i : Int)] w fun e w' => e = .returned (.int .u32 ((rootsL.getD i 0 : Nat) : Int)) ∧ Below w.heap.size w w' := by
  obtain ⟨⟨h1, h2⟩, h3⟩ := roots_all i hi
  have H2 := Lib.hid h2
  have H3 := Lib.hid h3
  go_enter Try.func9, Try.ntmps9
  go_wp2_with fail
  refine (nth_any i _ (by omega) h1).mono ?_
  rintro e w1 ⟨rfl, rfl⟩
  clear h1 h2 h3
  generalize nthN i = P at *
  go_wp2_with fail
  refine (root_any P 3 _ H2.out (.inr rfl)).mono ?_
  rintro e w1 ⟨rfl, hb1⟩
  rw [H3.out]
  go_wp2
  go_ret
  exact ⟨rfl, hb1⟩

/-- The beginning, the first k words, the rest zero. -/
def padE (k : Nat) : List Nat := begin8.take k ++ List.replicate (8 - k) 0
theorem padE_len {k : Nat} (h : k ≤ 8) : (padE k).length = 8 := by
  unfold padE; rw [List.length_append, List.length_take, List.length_replicate, show begin8.length = 8 from rfl]; omega
theorem padE_set : ∀ k, k < 8 → (padE k).set k (begin8.getD k 0) = padE (k + 1)
  | 0, _ => rfl | 1, _ => rfl | 2, _ => rfl | 3, _ => rfl | 4, _ => rfl | 5, _ => rfl | 6, _ => rfl | 7, _ => rfl
  | n + 8, h => by omega

set_option maxRecDepth 100000 in
set_option maxHeartbeats 1000000 in
theorem refBegin_any (w : World) : Calls Try.prog 12 #[] w fun e w' => e = .returned (.agg (arr begin8)) ∧ Below w.heap.size w w' := by
  have HL8 : Hid (begin8.length = 8) := Lib.hid rfl
  have HZ8 : Hid (([0, 0, 0, 0, 0, 0, 0, 0] : List Nat).length = 8) := Lib.hid rfl
  go_enter Try.func12, Try.ntmps12
  go_wp2_with (first
    | ((with_reducible refine wpList_alloc8m (w := w) rfl rfl ?_); intro w0 Z hZ hatZ hbZ)
    | ((with_reducible refine wpList_alloc8m (w := w0) rfl rfl ?_); intro w1 A hA hatA hb1))
  have hZA : Z < A := by have := hatZ.out.lt; have := hA.out; omega
  have HZ1 : Hid (ArrAt 29 w1 Z [0, 0, 0, 0, 0, 0, 0, 0]) := hatZ.out.below hb1
  have hwZ : w.heap.size ≤ Z := by have := hZ.out; omega
  have HB1 : Hid (Below w.heap.size w w1) := hbZ.trans (hb1.mono hbZ.size)
  have hwA : w.heap.size ≤ A := by omega
  clear hbZ hb1 hatZ hZ hA
  go_loopw [2] (fun i wr => ∃ k : Nat, k ≤ 8 ∧ i = .int .i64 (k : Int) ∧ ArrAt 29 wr A (padE k) ∧ ArrAt 29 wr Z [0, 0, 0, 0, 0, 0, 0, 0] ∧ Below w.heap.size w wr) (fun i _ => 8 - (intOf i).toNat)
  case atStart => exact ⟨0, Nat.zero_le _, rfl, hatA.out, HZ1.out, HB1.out⟩
  case round =>
    clear hatA HZ1 HB1
    obtain ⟨k, hk, rfl, hat, hatz, hbr⟩ := hrel
    have HAT := Lib.hid hat
    have HAZ := Lib.hid hatz
    have HBR := Lib.hid hbr
    clear hat hatz hbr
    by_cases hlt : k < 8
    · obtain ⟨⟨h1, h2⟩, h3⟩ := begin_all k hlt
      have H2 := Lib.hid h2
      have H3 := Lib.hid h3
      have HSET : Hid (k < (padE k).length ∧ (padE k).set k (begin8.getD k 0) = padE (k + 1)) := ⟨by rw [padE_len hk]; exact hlt, padE_set k hlt⟩
      have hki : (k : Int) < 8 := by omega
      go_wp2_with fail
      refine (nth_any k _ (by omega) h1).mono ?_
      rintro e w2 ⟨rfl, rfl⟩
      clear h1 h2 h3
      generalize nthN k = P at *
      go_wp2_with fail
      refine (root_any P 2 _ H2.out (.inl rfl)).mono ?_
      rintro e w3 ⟨rfl, hb3⟩
      rw [H3.out]
      generalize begin8.getD k 0 = d at *
      have HAT3 := Lib.hid (HAT.out.below hb3)
      have HAZ3 := Lib.hid (HAZ.out.below hb3)
      have HB3 := Lib.hid (HBR.out.trans (hb3.mono HBR.out.size))
      clear hb3 H2 H3
      go_wp2_with (first
        | ((with_reducible refine wpList_storeA1 (T := 29) rfl (.tmp 11) (.tmp 10) rfl k rfl d rfl HAT3.out (padE (k + 1)) HSET.out ?_); intro w4 hat4 hk4; (try simp only [Act.put])))
      go_roundw
      case rel => exact ⟨k + 1, by omega, by go_num, hat4.out, HAZ3.out.kept hk4.out (by omega), HB3.out.trans (hk4.out.below HB3.out.size (fun i hi => by omega))⟩
      case measure => simp [intOf] <;> omega
    · have hk8 : k = 8 := by omega
      have HAB : Hid (ArrAt 29 wr A begin8) := by
        show ArrAt _ _ _ _
        have h := HAT.out
        rw [hk8] at h; exact h
      rw [show (Value.int IntKind.i64 (k : Int)) = Value.int IntKind.i64 8 by rw [hk8]; rfl]
      clear hk8 hlt
      go_wp2_with (first
        | (with_reducible refine wpList_load_arr (T := 29) under_8 info_8 rfl (.tmp 1) rfl rfl HL8.out HAB.out ?_)
        | (with_reducible refine wpList_store_arr (T := 29) (n := 8) info_8 rfl (.tmp 0) (.tmp 12) rfl rfl begin8 rfl rfl HL8.out HAZ.out ?_))
      refine bodyPost_ret (results_arr (T := 29) under_8 info_8 rfl _ rfl HL8.out (HAZ.out.row begin8)) rfl ⟨rfl, ?_⟩
      exact below_setRow HBR.out hwZ _
end Go.Proofs.Ytegeglnfpddgfaa
