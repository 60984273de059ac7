/- The walk of the document's Fill. -/
import Derived.Test.YtegeglnfpddgfaaShaBytes
namespace Go.Proofs.Ytegeglnfpddgfaa
open Go.RowKit

/-- A store into a slice of the call's own. -/
theorem OwnB.set {base : Nat} {w : World} {g n cap : Nat} {l : List UInt8} (h : OwnB base w (.slice (some ⟨g, 0, none⟩) n cap) l) (j : Nat) (c : UInt8) :
    OwnB base (w.setCell ⟨g, j, none⟩ (.int .u8 (c.toNat : Int))) (.slice (some ⟨g, 0, none⟩) n cap) (l.set j c) := by
  rcases h.2 with ⟨hv, _⟩ | ⟨g', cap', cur, hv, hbg, hg, h1, h2, h3, h4⟩
  · cases hv
  cases hv
  refine ⟨by simp, .inr ⟨g, cap, cur.setIfInBounds j (u8v c), by simp, hbg, ?_, by simpa using h1, h2, by simpa using h3, ?_⟩⟩
  · rw [heap_setCell_same w g j _ _ _ hg]; rfl
  · rw [Array.toList_setIfInBounds, List.length_set, List.take_set, h4, List.map_set]
theorem OwnB.cellAt {base : Nat} {w : World} {g n cap : Nat} {l : List UInt8} (h : OwnB base w (.slice (some ⟨g, 0, none⟩) n cap) l) {j : Nat} (hj : j < l.length) : w.cell? ⟨g, j, none⟩ = some (.int .u8 ((l.getD j 0).toNat : Int)) := by
  obtain ⟨a, c, hv, hb, -, -⟩ := h.bs
  simp only [Value.slice.injEq] at hv
  obtain ⟨rfl, -, rfl⟩ := hv
  obtain ⟨b, off, ha, hc, -⟩ := hb.at hj
  simp only [Option.some.injEq, Addr.mk.injEq] at ha
  obtain ⟨rfl, rfl, -⟩ := ha
  rw [Nat.zero_add] at hc
  exact hc
theorem OwnB.free {base : Nat} {w : World} {g n cap : Nat} {l : List UInt8} (h : OwnB base w (.slice (some ⟨g, 0, none⟩) n cap) l) (j : Nat) : w.frozen? ⟨g, j, none⟩ = false := by
  rcases h.2 with ⟨h0, _⟩ | ⟨g', cap', cur, h0, hbg, hg, _⟩
  · cases h0
  · simp only [Value.slice.injEq, Option.some.injEq, Addr.mk.injEq] at h0
    obtain ⟨⟨rfl, -, -⟩, -, -⟩ := h0
    simp [World.frozen?, hg]

theorem be8_getD (v k : Nat) (h : k < 8) : (be8 v).getD k 0 = UInt8.ofNat (v / 2 ^ (8 * (7 - k)) % 256) := by
  unfold be8; simp [List.getD, h]
theorem be8_step (v k : Nat) (h : k + 1 ≤ 8) : (List.replicate (k + 1) (0 : UInt8) ++ (be8 v).drop (k + 1)).set k (UInt8.ofNat (v / 2 ^ (8 * (8 - (k + 1))) % 256)) = List.replicate k 0 ++ (be8 v).drop k := by
  have h1 : (be8 v).drop k = (be8 v).getD k 0 :: (be8 v).drop (k + 1) := by
    rw [List.drop_eq_getElem_cons (by rw [be8_len]; omega)]
    congr 1
    have hk : k < (be8 v).length := by rw [be8_len]; omega
    simp [List.getD, hk]
  rw [h1, be8_getD v k (by omega), show 7 - k = 8 - (k + 1) by omega]
  rw [List.replicate_succ', List.append_assoc, List.set_append_right _ _ (by simp)]
  simp

set_option maxRecDepth 100000 in
set_option maxHeartbeats 2000000 in
theorem refFill_any (n : Nat) (w : World) (hn : n ≤ 100000000) :
    Calls Try.prog 14 #[.int .i64 (n : Int)] w fun e w' => ∃ x, e = .returned x ∧ OwnB w.heap.size w' x (fillN n) ∧ Below w.heap.size w w' := by
  have hown0 : OwnB w.heap.size (w.alloc (.cells #[.int .u8 128] 5)) (.slice (some ⟨w.heap.size, 0, none⟩) 1 1) [128] := by
    have h := World.ownsRow_lit (base := w.heap.size) (e := 5) (size := 1) w #[.int .u8 128] 1 (Nat.le_refl _) (by decide) rfl
    exact h
  have HO0 := Lib.hid hown0
  have HB0 : Hid (Below w.heap.size w (w.alloc (.cells #[.int .u8 128] 5))) := (Below.refl _ _).alloc (Nat.le_refl _) _
  have HZ := Lib.hid (zerosN_lt n)
  clear hown0
  go_enter Try.func14, Try.ntmps14
  go_wp2
  go_loopw [3] (fun o wr => ∃ k : Nat, k ≤ zerosN n ∧ OwnB w.heap.size wr o (128 :: List.replicate k 0) ∧ Below w.heap.size w wr) (fun o _ => 65 - lenOfV o)
  case atStart => exact ⟨0, Nat.zero_le _, HO0.out, HB0.out⟩
  case round =>
    obtain ⟨k, hk, hown, hbr⟩ := hrel
    obtain ⟨a4, c4, n4, hv4, hn4, -, -, -⟩ := hown.bsn
    subst hv4
    have hn4' : n4 = k + 1 := by rw [hn4]; simp
    subst hn4'
    have HO := Lib.hid hown
    have hbase := hbr.size
    have HLE : Hid ((128 :: List.replicate k (0 : UInt8)).length + 1 ≤ 140737488355328) := by show _ ≤ _; have := HZ.out; simp; omega
    have hkl : k ≤ 64 := by have := HZ.out; omega
    clear hown hn4
    by_cases hz : k < zerosN n
    · have hne : (((n : Int) + ((k : Int) + 1) + 8) % 64 != 0) = true := by
        rw [bne_iff_ne]
        unfold zerosN at hz
        omega
      have hzs := HZ.out
      have HSN : Hid (128 :: List.replicate (k + 1) (0 : UInt8) = (128 :: List.replicate k 0) ++ [0]) := by show _ = _; rw [List.replicate_succ']; rfl
      go_wp2_with (at_builtin; refine wpList_append_u8_at rfl (.tmp 15) (.tmp 16) rfl w.heap.size (.slice a4 (k + 1) c4) _ rfl HO.out 0 0 rfl rfl HLE.out hbase ?_; intro v2 w2 hown2 hg2 hnear2)
      have hbr2 := hbr.trans (HO.out.belowOf hg2 hbase)
      rw [← HSN.out] at hown2
      obtain ⟨a5, c5, n5, hv5, hn5, -, -, -⟩ := hown2.bsn
      subst hv5
      have hn5' : n5 = k + 2 := by rw [hn5]; simp
      subst hn5'
      go_roundw
      case rel => exact ⟨k + 1, by omega, hown2, hbr2⟩
      case measure => simp [lenOfV] <;> omega
    · have hkz : k = zerosN n := by omega
      have hne : (((n : Int) + ((k : Int) + 1) + 8) % 64 != 0) = false := by
        rw [bne_eq_false_iff_eq]
        unfold zerosN at hkz
        omega
      have HKZ := Lib.hid hkz
      clear hkz hz hk
      obtain ⟨B8, hB8⟩ : ∃ B8, B8 = n * 8 := ⟨_, rfl⟩
      have hB8e : (n : Int) * 8 = (B8 : Int) := by omega
      have hB8l : B8 < 18446744073709551616 := by omega
      have HB8 := Lib.hid hB8
      clear hB8
      go_wp2_with (with_reducible refine wpList_make_u8 rfl (.const (.int .i64 8)) (.const (.int .i64 8)) rfl 8 rfl rfl (by omega) ?_; intro w1 hown1 hb1)
      have HOw := Lib.hid (HO.out.below hb1)
      have hbw1 := hbr.trans (hb1.mono hbr.size)
      obtain ⟨G, hG⟩ : ∃ G, G = wr.heap.size := ⟨_, rfl⟩
      have HG := Lib.hid hG
      rw [← hG] at hown1 ⊢
      clear hG
      go_loopw [4, 6] (fun x i w2 => ∃ m : Nat, m ≤ 8 ∧ i = .int .i64 ((m : Int) - 1) ∧ x = .int .u64 ((B8 / 2 ^ (8 * (8 - m)) : Nat)) ∧ OwnB G w2 (.slice (some ⟨G, 0, none⟩) 8 8) (List.replicate m 0 ++ (be8 B8).drop m) ∧ Below wr.heap.size wr w2) (fun _ i _ => (intOf i + 1).toNat)
      case atStart => exact ⟨8, Nat.le_refl _, rfl, by simp, by rw [List.drop_eq_nil_of_le (by rw [be8_len]; exact Nat.le_refl _), List.append_nil]; exact hown1.out, hb1⟩
      case round =>
        obtain ⟨m, hm, rfl, rfl, hown, hbr2⟩ := hrel
        by_cases hlt : 0 < m
        · obtain ⟨m, rfl⟩ : ∃ j, m = j + 1 := ⟨m - 1, by omega⟩
          rw [show (((m + 1 : Nat) : Int) - 1) = (m : Int) by omega]
          have HS := Lib.hid (be8_step B8 m hm)
          have HV : Hid (B8 / 2 ^ (8 * (8 - m)) = B8 / 2 ^ (8 * (8 - (m + 1))) / 256) := by
            show _ = _
            rw [show 8 * (8 - m) = 8 * (8 - (m + 1)) + 8 by omega, Nat.pow_add, ← Nat.div_div_eq_div_mul]
          have hVl : B8 / 2 ^ (8 * (8 - (m + 1))) < 18446744073709551616 := Nat.lt_of_le_of_lt (Nat.div_le_self _ _) hB8l
          generalize B8 / 2 ^ (8 * (8 - (m + 1))) = V at *
          obtain ⟨d, hd⟩ : ∃ d, d = UInt8.ofNat (V % 256) := ⟨_, rfl⟩
          have hdv : ((V : Int) % 256) = (d.toNat : Int) := by rw [hd]; simp
          rw [← hd] at HS
          clear hd
          have hcell := hown.cellAt (j := m) (by simp [be8_len]; omega)
          have hfro := hown.free m
          generalize ((List.replicate (m + 1) (0 : UInt8) ++ (be8 B8).drop (m + 1)).getD m 0).toNat = old at *
          have hkm : m < 8 := by omega
          have HSET := Lib.hid (hown.set m d)
          have HBEL := Lib.hid (hbr2.setCell (p := ⟨G, m, none⟩) (by have := HG.out; show _ ≤ G; omega) (.int .u8 (d.toNat : Int)))
          clear hown
          go_wp2
          go_roundw
          case rel => exact ⟨m, by omega, rfl, by rw [HV.out]; simp, by rw [← HS.out]; exact HSET.out, HBEL.out⟩
          case measure => simp [intOf] <;> omega
        · obtain rfl : m = 0 := by omega
          have hown' : OwnB G wr (.slice (some ⟨G, 0, none⟩) 8 8) (be8 B8) := by simpa using hown
          obtain ⟨a8, c8, hv8, hb8, -, -⟩ := hown'.bs
          simp only [Value.slice.injEq] at hv8
          obtain ⟨rfl, -, rfl⟩ := hv8
          have HBB := Lib.hid hb8
          have HO2 := Lib.hid (HO.out.below hbr2)
          have hbw2 := hbr.trans (hbr2.mono hbr.size)
          have hbase2 := hbw2.size
          have HRM : Hid ((128 :: List.replicate k (0 : UInt8)).length + 8 ≤ 140737488355328) := by show _ ≤ _; simp; omega
          clear hown hown' hb8
          go_wp2_with (at_builtin; refine wpList_append_bs_at rfl (.tmp 34) (.tmp 35) rfl w.heap.size (.slice a4 (k + 1) c4) _ rfl HO2.out (some ⟨G, 0, none⟩) 8 8 (be8 B8) rfl (be8_len B8).symm HBB.out HRM.out hbase2 ?_; intro v6 w6 hown6 hg6 hnear6; obtain ⟨a6, c6, n6, hv6, -, -, -, -⟩ := hown6.bsn; subst hv6)
          go_ret
          refine ⟨_, rfl, ?_, hbw2.trans (HO2.out.belowOf hg6 hbase2)⟩
          unfold fillN
          rw [← HKZ.out, ← HB8.out]
          exact hown6
end Go.Proofs.Ytegeglnfpddgfaa
