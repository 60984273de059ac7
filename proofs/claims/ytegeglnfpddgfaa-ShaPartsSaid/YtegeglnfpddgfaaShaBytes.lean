/- Walks of sha.Block at bytes that are no block, sha.Fill, and the document's Fill. -/
import Derived.Test.YtegeglnfpddgfaaShaBlock
namespace Go.Proofs.Ytegeglnfpddgfaa
open Go.RowKit

theorem built8 : Try.prog.built 29 [] = some (arr [0, 0, 0, 0, 0, 0, 0, 0]) := by kernel_rfl
theorem wpList_build8z {ops : Array Oper} {rest : List Oper} {o : Oper} {a : Act} {w : World} {Q : Exit → Act → World → Prop} (hg : o.guard = none) (ho : o.op = .build 29 #[])
    (h : wpList Try.prog ops Q rest (a.put o.dst (.agg (arr [0, 0, 0, 0, 0, 0, 0, 0]))) w) : wpList Try.prog ops Q (o :: rest) a w :=
  wpList_buildTo hg 29 #[] ho _ rfl _ (by simpa using built8) h

set_option maxRecDepth 100000 in
set_option maxHeartbeats 1000000 in
theorem Block_bad (s : List Nat) (a : Option Addr) (n cap : Nat) (w : World) (hn : n ≠ 64) :
    Calls Try.prog 15 #[.agg (arr s), .slice a n cap] w fun e w' => e = .returned (.tuple #[.agg (arr [0, 0, 0, 0, 0, 0, 0, 0]), .bool false]) ∧ Below w.heap.size w w' := by
  have hn1 : ((n : Int) != 64) = true := by rw [bne_iff_ne]; omega
  obtain ⟨w1, hw1⟩ : ∃ w1, w1 = (w.alloc (.cells (arr s) 29)).alloc (.cells (arr [0, 0, 0, 0, 0, 0, 0, 0]) 29) := ⟨_, rfl⟩
  obtain ⟨G, hG⟩ : ∃ G, G = w.heap.size := ⟨_, rfl⟩
  have hat1 : ArrAt 29 w1 (G + 1) [0, 0, 0, 0, 0, 0, 0, 0] := by rw [hw1, hG]; exact heap_alloc2_new w _ _
  have hb1 : Below w.heap.size w w1 := by rw [hw1]; exact ((Below.refl _ _).alloc (Nat.le_refl _) _).alloc (by simp) _
  have HW1 := Lib.hid hw1
  have HG := Lib.hid hG
  have HA1 := Lib.hid hat1
  clear hw1 hG hat1 hn
  go_enter Try.func15, Try.ntmps15
  go_wp2_with (first
    | (with_reducible refine wpList_box_arr (T := 29) (l := s) rfl (.tmp 0) rfl rfl ?_)
    | ((with_reducible refine wpList_alloc8 rfl rfl ?_); rw [← HW1.out])
    | (with_reducible refine wpList_build8z rfl rfl ?_)
    | ((try rw [← HG.out]); with_reducible refine wpList_store_arr (T := 29) (n := 8) info_8 rfl (.tmp 4) (.tmp 14) rfl rfl [0, 0, 0, 0, 0, 0, 0, 0] rfl rfl rfl HA1.out ?_))
  refine bodyPost_ret (results_arr_tmp (T := 29) under_8 info_8 rfl _ rfl rfl (HA1.out.row [0, 0, 0, 0, 0, 0, 0, 0])) rfl ⟨rfl, ?_⟩
  exact below_setRow hb1 (by have := HG.out; omega) _

def lenOfV : Value → Nat
  | .slice _ n _ => n
  | _ => 0
theorem be8_snoc (v k : Nat) (h : k < 8) : (be8 v).take (8 - k) = (be8 v).take (8 - (k + 1)) ++ [UInt8.ofNat (v / 2 ^ (8 * k) % 256)] := by
  have h1 : 8 - k = (8 - (k + 1)) + 1 := by omega
  rw [h1, take_snoc _ 0 _ (by rw [be8_len]; omega)]
  congr 2
  unfold be8
  rw [show 8 - (k + 1) = 7 - k by omega]
  simp [List.getD, show 7 - k < 8 by omega, show 7 - (7 - k) = k by omega]

set_option maxRecDepth 100000 in
set_option maxHeartbeats 2000000 in
theorem Fill_any (n : Nat) (w : World) (hn : n ≤ 100000000) :
    Calls Try.prog 13 #[.int .i64 (n : Int)] w fun e w' => ∃ x, e = .returned x ∧ OwnB w.heap.size w' x (fillN n) ∧ Below w.heap.size w w' := by
  have hown0 : OwnB w.heap.size (w.alloc (.cells #[.int .u8 128] 5)) (.slice (some ⟨w.heap.size, 0, none⟩) 1 1) [128] := by
    have h := World.ownsRow_lit (base := w.heap.size) (e := 5) (size := 1) w #[.int .u8 128] 1 (Nat.le_refl _) (by decide) rfl
    exact h
  have HO0 := Lib.hid hown0
  have HB0 : Hid (Below w.heap.size w (w.alloc (.cells #[.int .u8 128] 5))) := (Below.refl _ _).alloc (Nat.le_refl _) _
  have HZ := Lib.hid (zerosN_lt n)
  clear hown0
  go_enter Try.func13, Try.ntmps13
  go_wp2
  go_loopw [3] (fun o wr => ∃ k : Nat, k ≤ zerosN n ∧ OwnB w.heap.size wr o (128 :: List.replicate k 0) ∧ Below w.heap.size w wr) (fun o _ => 65 - lenOfV o)
  case atStart => exact ⟨0, Nat.zero_le _, HO0.out, HB0.out⟩
  case round =>
    obtain ⟨k, hk, hown, hbr⟩ := hrel
    obtain ⟨a4, c4, n4, hv4, hn4, -, -, -⟩ := hown.bsn
    subst hv4
    have hn4' : n4 = k + 1 := by rw [hn4]; simp
    subst hn4'
    have HO := Lib.hid hown
    have hbase := hbr.size
    have HLE : Hid ((128 :: List.replicate k (0 : UInt8)).length + 1 ≤ 140737488355328) := by show _ ≤ _; have := HZ.out; simp; omega
    clear hown hn4
    by_cases hz : k < zerosN n
    · have hne : (((n : Int) + ((k + 1 : Nat) : Int)) % 64 != 56) = true := by
        rw [bne_iff_ne]
        unfold zerosN at hz
        omega
      have hne2 : (((n : Int) + ((k : Int) + 1)) % 64 != 56) = true := by rw [← hne]; congr 2
      have hzs := HZ.out
      have HSN : Hid (128 :: List.replicate (k + 1) (0 : UInt8) = (128 :: List.replicate k 0) ++ [0]) := by show _ = _; rw [List.replicate_succ']; rfl
      go_wp2_with (at_builtin; refine wpList_append_u8_at rfl (.tmp 15) (.tmp 16) rfl w.heap.size (.slice a4 (k + 1) c4) _ rfl HO.out 0 0 rfl rfl HLE.out hbase ?_; intro v2 w2 hown2 hg2 hnear2)
      have hbr2 := hbr.trans (HO.out.belowOf hg2 hbase)
      rw [← HSN.out] at hown2
      obtain ⟨a5, c5, n5, hv5, hn5, -, -, -⟩ := hown2.bsn
      subst hv5
      have hn5' : n5 = k + 2 := by rw [hn5]; simp
      subst hn5'
      go_roundw
      case rel => exact ⟨k + 1, by omega, hown2, hbr2⟩
      case measure => simp [lenOfV] <;> omega
    · have hkz : k = zerosN n := by omega
      have hne : (((n : Int) + ((k : Int) + 1)) % 64 != 56) = false := by
        rw [bne_eq_false_iff_eq]
        unfold zerosN at hkz
        omega
      have HKZ := Lib.hid hkz
      clear hkz hz hk
      obtain ⟨B8, hB8⟩ : ∃ B8, B8 = n * 8 := ⟨_, rfl⟩
      have hB8e : (n : Int) * 8 = (B8 : Int) := by omega
      have hB8l : B8 < 18446744073709551616 := by omega
      have HB8 := Lib.hid hB8
      clear hB8
      have hkl : k ≤ 64 := by have := HKZ.out; have := HZ.out; omega
      go_wp2
      go_loopw [3, 5] (fun o i wr => ∃ m : Nat, m ≤ 8 ∧ i = .int .i64 ((m : Int) - 1) ∧ OwnB w.heap.size wr o ((128 :: List.replicate k 0) ++ (be8 B8).take (8 - m)) ∧ Below w.heap.size w wr) (fun _ i _ => (intOf i + 1).toNat)
      case atStart => exact ⟨8, Nat.le_refl _, rfl, by simpa using HO.out, hbr⟩
      case round =>
        obtain ⟨m, hm, rfl, hown, hbr⟩ := hrel
        obtain ⟨a5, c5, n5, hv5, hn5, -, -, -⟩ := hown.bsn
        subst hv5
        have HO5 := Lib.hid hown
        have hbase5 := hbr.size
        have HLE5 : Hid (((128 :: List.replicate k (0 : UInt8)) ++ (be8 B8).take (8 - m)).length + 1 ≤ 140737488355328) := by
          show _ ≤ _
          rw [List.length_append, List.length_take, be8_len]; simp; omega
        clear hown hn5
        by_cases hlt : 0 < m
        · obtain ⟨m, rfl⟩ : ∃ j, m = j + 1 := ⟨m - 1, by omega⟩
          rw [show (((m + 1 : Nat) : Int) - 1) = (m : Int) by omega]
          have HT := Lib.hid (be8_snoc B8 m (by omega))
          obtain ⟨V, hV⟩ : ∃ V, V = B8 / 2 ^ (8 * m) := ⟨_, rfl⟩
          obtain ⟨d, hd⟩ : ∃ d, d = UInt8.ofNat (V % 256) := ⟨_, rfl⟩
          have hsh : (B8 : Int) / 2 ^ (8 * m) = (V : Int) := by rw [hV]; simp
          have hsh2 : (B8 : Int) / 2 ^ (8 * (m : Int)).toNat = (V : Int) := by rw [show (8 * (m : Int)).toNat = 8 * m by omega]; exact hsh
          have hdv : (V : Int) % 256 = (d.toNat : Int) := by rw [hd]; simp
          rw [← hV, ← hd] at HT
          clear hV hd
          go_wp2_with (at_builtin; refine wpList_append_u8_at rfl (.tmp 25) (.tmp 31) rfl w.heap.size (.slice a5 n5 c5) _ rfl HO5.out (d.toNat : Int) d rfl rfl HLE5.out hbase5 ?_; intro v6 w6 hown6 hg6 hnear6)
          rw [List.append_assoc, ← HT.out] at hown6
          have hbr6 := hbr.trans (HO5.out.belowOf hg6 hbase5)
          go_roundw
          case rel => exact ⟨m, by omega, by go_num, hown6, hbr6⟩
          case measure => simp [intOf] <;> omega
        · obtain rfl : m = 0 := by omega
          have HF : Hid (OwnB w.heap.size wr (.slice a5 n5 c5) (fillN n)) := by
            show OwnB _ _ _ _
            have h7 := HO5.out
            rw [List.take_of_length_le (by rw [be8_len]; omega)] at h7
            unfold fillN
            rw [← HKZ.out, ← HB8.out]
            exact h7
          go_wp2
          go_ret
          exact ⟨_, rfl, HF.out, hbr⟩
end Go.Proofs.Ytegeglnfpddgfaa
