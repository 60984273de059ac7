/- The walk of sha.Of. -/
import Derived.Test.YtegeglnfpddgfaaShaHSum
namespace Go.Proofs.Ytegeglnfpddgfaa
open Go.RowKit

theorem hashN_run (F : List UInt8) : bytesN (runN (runN begin8 F) (restN F ++ fillN F.length)) = hashN F := by
  unfold hashN
  rw [(run_more _ begin8 F (fillN F.length) rfl).1]

set_option maxRecDepth 100000 in
set_option maxHeartbeats 1000000 in
theorem shaOf_any (ls : List (List UInt8)) (a : Option Addr) (n cap : Nat) (w : World) (hn : n = ls.length) (hb : Bss w a cap ls) (ht : ls.flatten.length ≤ 100000000) :
    Calls Try.prog 8 #[.slice a n cap] w fun e w' => e = .returned (.agg (arrB (hashN ls.flatten))) ∧ Below w.heap.size w w' := by
  have HN := Lib.hid hn
  have HB := Lib.hid hb
  have HT := Lib.hid ht
  have hfit := hb.fits hn
  obtain ⟨G, hG⟩ : ∃ G, G = w.heap.size := ⟨_, rfl⟩
  have HG := Lib.hid hG
  clear hG hn hb ht
  go_enter Try.func8, Try.ntmps8
  go_wp2_with (first
    | (with_reducible refine wpList_alloc32n rfl rfl G HG.out ?_; intro w1 hat1 hb1; have hbw1 : Below w.heap.size w w1 := HG.out ▸ hb1))
  refine (New_any _).mono ?_
  rintro e w2 ⟨p, rfl, hs2, hb2⟩
  obtain ⟨B, hB⟩ : ∃ B, B = w1.heap.size := ⟨_, rfl⟩
  rw [← hB] at hs2 hb2
  have HBB := Lib.hid hB
  have HAT1 : Hid (ArrBAt 24 w1 G b32) := hat1
  have HLB := Lib.hid (hashN_len ls.flatten)
  have HS2 := Lib.hid hs2
  have HB2 := Lib.hid hb2
  have HBW1 := Lib.hid hbw1
  have HGB : Hid (G < B) := by show _ < _; rw [hB]; exact hat1.out.lt
  have hBw : w.heap.size ≤ B := by have := hbw1.size; omega
  clear hs2 hb2 hB hb1 hbw1 hat1
  go_wp2_with fail
  go_loopw [5, 9] (fun _ i wr => ∃ (k : Nat) (v : Value), k ≤ ls.length ∧ i = .int .i64 (k : Int) ∧ Hs B wr p v (runN begin8 (ls.take k).flatten) (restN (ls.take k).flatten) (ls.take k).flatten.length ∧ Below B w1 wr) (fun _ i _ => n - (intOf i).toNat)
  case atStart => exact ⟨0, _, Nat.zero_le _, rfl, by simpa [runN_lt, restN_lt] using HS2.out, HB2.out⟩
  case round =>
    obtain ⟨k, v, hk, rfl, hs, hbr⟩ := hrel
    have HS := Lib.hid hs
    have HBR := Lib.hid hbr
    have hszr : B ≤ wr.heap.size := Nat.le_trans (Nat.le_of_eq HBB.out) hbr.size
    have hbwr : Below w.heap.size w wr := HBW1.out.trans (hbr.mono hBw)
    clear hs hbr
    by_cases hlt : k < n
    · have hkl : k < ls.length := by have := HN.out; omega
      obtain ⟨b, off, ai, ci, rfl, hc0, hblt, hbi⟩ := HB.out.at hkl
      have hc := (hbwr.cell (p := ⟨b, off + k, none⟩) hblt).trans hc0
      clear hc0
      obtain ⟨m, hm⟩ : ∃ m, m = (ls.getD k []).length := ⟨_, rfl⟩
      rw [← hm] at hc
      have HM := Lib.hid hm
      have HBI := Lib.hid hbi
      have HBWR := Lib.hid hbwr
      clear hm hbi hbwr
      go_wp2_with fail
      have hfl := flat_take_succ ls k hkl
      have hle := flat_le ls (k + 1)
      refine (HWrite_any B p v _ _ _ ai (ls.getD k []) m ci _ HS.out (restN_len _ _ rfl) HM.out ?_ ?_ hszr).mono ?_
      · rw [hfl, List.length_append, ← HM.out] at hle
        have := HT.out
        omega
      · intro w' hk'
        exact HBI.out.below (HBWR.out.trans ((hk'.below hszr HS.out.foot).mono hBw))
      rintro e w4 ⟨rfl, v4, hs4, hk4, -⟩
      rw [← (run_more _ begin8 _ _ rfl).1, ← (run_more _ begin8 _ (ls.getD k []) rfl).2, ← hfl, HM.out, ← List.length_append, ← hfl] at hs4
      have HS4 := Lib.hid hs4
      have HB4 : Hid (Below B w1 w4) := HBR.out.trans (hk4.below hszr HS.out.foot)
      clear hs4 hk4 hle hfl
      go_wp2_with fail
      go_roundw
      case rel => exact ⟨k + 1, v4, by omega, by go_num, HS4.out, HB4.out⟩
      case measure => simp [intOf]; omega
    · obtain rfl : k = ls.length := by have := HN.out; omega
      rw [List.take_length] at HS
      go_wp2_with fail
      refine (Sum_any B p v _ _ _ _ HS.out (restN_len _ _ rfl) HT.out).mono ?_
      rintro e w4 ⟨rfl, hb4⟩
      rw [hashN_run]
      have HATG := HAT1.out.below ((HBR.out.trans (hb4.mono hszr)).mono (Nat.le_of_eq HBB.out.symm))
      have hbw4 := hbwr.trans (hb4.mono hbwr.size)
      go_wp2_with (first
        | (with_reducible refine wpList_storeB (T := 24) (n := 32) info_32 rfl (.tmp 2) (.tmp 18) rfl rfl (hashN ls.flatten) rfl b32_len HLB.out HATG ?_))
      refine bodyPost_ret (results_arrB (T := 24) under_32 info_32 rfl _ rfl HLB.out (HATG.row (hashN ls.flatten))) rfl ⟨rfl, ?_⟩
      exact below_setRow hbw4 (by have := HG.out; omega) _
end Go.Proofs.Ytegeglnfpddgfaa
