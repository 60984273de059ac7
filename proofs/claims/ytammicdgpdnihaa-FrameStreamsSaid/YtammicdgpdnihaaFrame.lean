/- Walks of layer 7: frame.tail, Len, Seal, cut, and the document's Seal. -/
import Derived.Test.YtammicdgpdnihaaVarintTake
import Derived.Test.YtammicdgpdnihaaFrameMath
import Derived.Test.YtammicdgpdnihaaCrc
namespace Go.Proofs.Ytammicdgpdnihaa
open Go.RowKit

/-- A new block of literal bytes is the call's own. -/
theorem OwnB.lit (w : World) (C : Array Value) (l : List UInt8) (n : Nat) (hn : n = l.length) (hC : C.toList = l.map u8v) (hm : n ≤ 140737488355328) : OwnB w.heap.size (w.alloc (.cells C 5)) (.slice (some ⟨w.heap.size, 0, none⟩) n n) l := by
  subst hn
  have hs : C.size = l.length * 1 := by have h := congrArg List.length hC; simp at h; omega
  have h := World.ownsRow_lit (base := w.heap.size) (e := 5) (size := 1) w C l.length (Nat.le_refl _) (by unfold maxLen; omega) hs
  rw [hC] at h
  exact h

set_option maxRecDepth 100000 in
theorem tail_any (s : Nat) (w : World) (hs : s < 4294967296) :
    Calls Try.prog 48 #[.int .u32 (s : Int)] w fun e w' => ∃ x, e = .returned x ∧ OwnB w.heap.size w' x (le4 s) ∧ Below w.heap.size w w' := by
  go_enter Try.func48, Try.ntmps48
  go_wp2
  go_ret
  refine ⟨_, rfl, OwnB.lit w _ (le4 s) 4 rfl ?_ (by omega), (Below.refl _ _).alloc (Nat.le_refl _) _⟩
  simp [le4, u8v]
  omega

set_option maxRecDepth 100000 in
theorem FLen_any (n : Int) (w : World) (hn1 : -9223372036854775808 ≤ n) (hn2 : n ≤ 9223372036854775807) :
    Calls Try.prog 36 #[.int .i64 n] w fun e w' => e = .returned (.int .i64 (if 0 ≤ n ∧ n ≤ 1048576 then 5 + (formV n.toNat).length + n else 0)) ∧ w = w' := by
  by_cases h : 0 ≤ n ∧ n ≤ 1048576
  · rw [if_pos h]
    obtain ⟨h1, h2⟩ := h
    obtain ⟨m, rfl⟩ : ∃ m : Nat, n = m := ⟨n.toNat, by omega⟩
    have HF := Lib.hid (formV_le (v := m) (by omega))
    have hm : m ≤ 1048576 := by omega
    rw [Int.toNat_natCast]
    go_enter Try.func36, Try.ntmps36
    go_wp2_with fail
    refine (VLen_any m _ (by omega)).mono ?_
    rintro e w1 ⟨rfl, rfl⟩
    have hf := HF.out
    obtain ⟨q, hq⟩ : ∃ q, q = (formV m).length := ⟨_, rfl⟩
    rw [← hq] at hf ⊢
    have HQ := Lib.hid hq
    clear hq
    go_wp2
    go_ret
    exact ⟨ret_int (by have := HQ.out; omega), rfl⟩
  · rw [if_neg h]
    by_cases h1 : n < 0
    · go_enter Try.func36, Try.ntmps36
      go_wp2
      go_ret
      exact ⟨rfl, rfl⟩
    · have h2 : 1048576 < n := by omega
      clear h
      go_enter Try.func36, Try.ntmps36
      go_wp2
      go_ret
      exact ⟨rfl, rfl⟩

set_option maxRecDepth 100000 in
theorem cut_any (a : Option Addr) (l : List UInt8) (n cap : Nat) (w : World) (hn : n = l.length) (hb : Bs w a cap l) :
    Calls Try.prog 55 #[.slice a n cap] w fun e w' => e = .returned (.bool (cutV l)) ∧ w = w' := by
  have hf := hb.fits hn
  have HN := Lib.hid hn
  have HB := Lib.hid hb
  clear hn hb
  go_enter Try.func55, Try.ntmps55
  go_wp2
  go_loop [4, 7] (fun _ i => ∃ k : Nat, k ≤ n ∧ i = .int .i64 (k : Int) ∧ Hid ((l.take k).all (fun c => decide (128 ≤ c.toNat)) = true)) (fun _ i => n - (intOf i).toNat)
  case atStart => exact ⟨0, Nat.zero_le _, rfl, rfl⟩
  case round =>
    obtain ⟨k, hk, rfl, HA⟩ := hrel
    by_cases hlt : k < n
    · obtain ⟨b, off, rfl, hcell, hbl⟩ := HB.out.at (k := k) (by have h1 := HN.out; omega)
      have HT : Hid ((l.take (k + 1)).all (fun c => decide (128 ≤ c.toNat)) = decide (128 ≤ (l.getD k 0).toNat)) := by
        show _ = _
        rw [take_snoc l 0 k (by have h2 := HN.out; omega), List.all_append, HA.out]; simp
      have HS : Hid ((l.getD k 0).toNat < 128 → cutV l = false) := by
        intro h
        have hk' : k < l.length := by have h2 := HN.out; omega
        unfold cutV
        rw [show (l.all fun c => decide (128 ≤ c.toNat)) = false from List.all_eq_false.2 ⟨l[k], List.getElem_mem hk', by
          have e : l.getD k 0 = l[k] := by simp [List.getD, hk']
          rw [e] at h
          simp; omega⟩]; rfl
      generalize (l.getD k 0).toNat = c at *
      by_cases hc : c < 128
      · have HSF := Lib.hid (HS.out hc)
        go_wp2
        go_ret
        exact ⟨ret_bool HSF.out.symm, rfl⟩
      · go_wp2
        go_round
        case rel => exact ⟨k + 1, by omega, by go_num, by show _ = _; rw [HT.out]; simp; omega⟩
        case measure => simp [intOf]; omega
    · obtain rfl : k = n := by omega
      have HE : Hid (cutV l = decide (k < 10)) := by
        show _ = _
        have h1 := HA.out
        rw [List.take_of_length_le (by have h2 := HN.out; omega)] at h1
        unfold cutV
        rw [h1, Bool.true_and, ← HN.out]
      go_wp2
      go_ret
      exact ⟨ret_bool (by rw [HE.out, Bool.eq_iff_iff, decide_eq_true_eq, decide_eq_true_eq]; omega), rfl⟩

set_option maxRecDepth 100000 in
set_option maxHeartbeats 2000000 in
theorem Seal_any (kind : UInt8) (a : Option Addr) (l : List UInt8) (n cap : Nat) (w : World) (hn : n = l.length) (hmax : n ≤ 1048576) (hb : Bs w a cap l) :
    Calls Try.prog 35 #[.int .u8 (kind.toNat : Int), .slice a n cap] w fun e w' =>
      ∃ x, e = .returned (.tuple #[x, .int .i64 0]) ∧ OwnB w.heap.size w' x (sealF kind l) ∧ Below w.heap.size w w' := by
  have HN := Lib.hid hn
  have HB := Lib.hid hb
  have hk := kind.toNat_lt
  have HKD : Hid (UInt8.ofNat kind.toNat = kind) := by show _ = _; simp
  have HHL : Hid ((headF kind l).length ≤ 1048600) := by show _ ≤ _; have := formV_le (v := l.length) (by omega); rw [headF_len]; omega
  have HFL : Hid ((formV l.length).length ≤ 10) := formV_le (by omega)
  clear hn hb
  obtain ⟨d, hd⟩ : ∃ d, d = kind.toNat := ⟨_, rfl⟩
  rw [← hd] at hk HKD ⊢
  clear hd
  go_enter Try.func35, Try.ntmps35
  go_wp2_with fail
  refine (octetWrite_any _).mono ?_
  rintro e w1 ⟨p, rfl, hW1, hb1⟩
  have HW1 := Lib.hid hW1
  clear hW1
  go_wp2_with fail
  refine (WNum1_any _ p _ [] d _ HW1.out (by simp) hk).mono ?_
  rintro e w2 ⟨rfl, x2, hW2, hK2, -⟩
  rw [HKD.out, List.nil_append] at hW2
  have hbw2 : Below w.heap.size w w2 := hb1.trans (hK2.below hb1.size HW1.out.foot)
  have HW2 := Lib.hid hW2
  clear hW2 hK2
  go_wp2_with fail
  refine (Put_any _ p x2 [kind] n _ HW2.out (by simp) (by omega)).mono ?_
  rintro e w3 ⟨rfl, x3, hW3, hK3, -⟩
  rw [HN.out] at hW3
  have hbw3 : Below w.heap.size w w3 := hbw2.trans (hK3.below hbw2.size HW2.out.foot)
  have HW3 := Lib.hid hW3
  clear hW3 hK3
  go_wp2_with fail
  have hWA : Wr w.heap.size (w3.alloc (.cells #[.slice a n cap] 24)) p x3 ([kind] ++ formV l.length) := HW3.out.below ((Below.refl _ _).alloc (Nat.le_refl _) _)
  have hbA : Below w.heap.size w (w3.alloc (.cells #[.slice a n cap] 24)) := hbw3.alloc hbw3.size _
  refine (WRaw_any _ p x3 _ _ 1 1 [l] _ hWA rfl ?_ ?_).mono ?_
  · intro w' hk'
    have hbel : Below w.heap.size w w' := hbA.trans (hk'.below hbA.size hWA.foot)
    refine Bss.one l HN.out (g := w3.heap.size) (e := 24) (fr := (0, 0)) ?_ (HB.out.below hbel)
    rw [hk'.block _ (by simp) (by
      rintro (h | h)
      · have := HW3.out.lt; omega
      · have := (HW3.out.own.lt _ h).2; omega)]
    exact heap_alloc_new w3 _
  · have h3 := HHL.out; rw [headF_len] at h3; simp at h3 ⊢; omega
  rintro e w4 ⟨rfl, x4, hW4, hK4, -⟩
  have HW4 : Hid (Wr w.heap.size w4 p x4 (headF kind l)) := by
    show Wr _ _ _ _ _
    rw [show headF kind l = [kind] ++ formV l.length ++ [l].flatten by unfold headF; simp]
    exact hW4
  have hbw4 : Below w.heap.size w w4 := hbA.trans (hK4.below hbA.size hWA.foot)
  clear hW4 hK4 hWA hbA
  go_wp2_with fail
  refine (WBytes_any _ p x4 _ _ HW4.out (by have := HHL.out; omega)).mono ?_
  rintro e w5 ⟨v5, rfl, hown5, hb5⟩
  obtain ⟨a5, c5, n5, hv5, hn5, hbs5, -, -⟩ := hown5.bsn
  subst hv5
  have HW5 := Lib.hid (HW4.out.below hb5)
  have hbw5 := hbw4.trans (hb5.mono hbw4.size)
  have HN5 := Lib.hid hn5
  have HB5 := Lib.hid hbs5
  clear hown5 hb5 hn5 hbs5
  go_wp2_with fail
  refine (CrcOf_any _ [headF kind l] _ _ _ rfl (Bss.one _ HN5.out (heap_alloc_at _ _ _ (by simp)) (HB5.out.below ((Below.refl _ _).alloc (Nat.le_refl _) _)))).mono ?_
  rintro e w6 ⟨rfl, hb6⟩
  rw [show List.flatten [headF kind l] = headF kind l from by simp]
  have hb56 : Below w5.heap.size w5 w6 := ((Below.refl _ w5).alloc (Nat.le_refl _) _).trans (hb6.mono (by simp))
  have hbw6 := hbw5.trans (hb56.mono hbw5.size)
  have HW6 := Lib.hid (HW5.out.below hb56)
  have hs := sumN_lt (headF kind l)
  obtain ⟨s, hsd⟩ : ∃ s, s = sumN (headF kind l) := ⟨_, rfl⟩
  rw [← hsd] at hs ⊢
  have HSD := Lib.hid hsd
  clear hsd hb6 hb56
  go_wp2_with fail
  refine (tail_any s _ hs).mono ?_
  rintro e w7 ⟨v7, rfl, hown7, hb7⟩
  obtain ⟨a7, c7, n7, hv7, hn7, hbs7, -, hbl7⟩ := hown7.bsn
  subst hv7
  have hbw7 := hbw6.trans (hb7.mono hbw6.size)
  have HW7 := Lib.hid (HW6.out.below hb7)
  have HN7 := Lib.hid hn7
  have HB7 := Lib.hid hbs7
  have hp6 := HW6.out.lt
  have HX : Hid (∀ z, a7 = some z → ¬ WFoot p x4 z.block ∧ z.block < w7.heap.size) := fun z hz => ⟨fun hf => by
    have h5 := (hbl7 z hz).1
    rcases hf with hf | hf
    · omega
    · have := (HW6.out.own.lt _ hf).2; omega, (hbl7 z hz).2⟩
  clear hown7 hb7 hn7 hbs7 hbl7
  go_wp2_with fail
  have hWA : Wr w.heap.size (w7.alloc (.cells #[.slice a7 n7 c7] 24)) p x4 (headF kind l) := HW7.out.below ((Below.refl _ _).alloc (Nat.le_refl _) _)
  have hbA : Below w.heap.size w (w7.alloc (.cells #[.slice a7 n7 c7] 24)) := hbw7.alloc hbw7.size _
  have HB7a := Lib.hid (HB7.out.below ((Below.refl _ _).alloc (Nat.le_refl _) (.cells #[.slice a7 n7 c7] 24)))
  refine (WRaw_any _ p x4 _ _ 1 1 [le4 s] _ hWA rfl ?_ ?_).mono ?_
  · intro w' hk'
    refine Bss.one (le4 s) HN7.out (g := w7.heap.size) (e := 24) (fr := (0, 0)) ?_ (HB7a.out.kept hk' (fun z hz => (HX.out z hz).1))
    rw [hk'.block _ (by simp) (by
      rintro (h | h)
      · have := HW7.out.lt; omega
      · have := (HW7.out.own.lt _ h).2; omega)]
    exact heap_alloc_new w7 _
  · have h3 := HHL.out; simp [le4] at h3 ⊢; omega
  rintro e w8 ⟨rfl, x8, hW8, hK8, -⟩
  have HW8 : Hid (Wr w.heap.size w8 p x8 (sealF kind l)) := by
    show Wr _ _ _ _ _
    rw [show sealF kind l = headF kind l ++ [le4 s].flatten by unfold sealF; rw [HSD.out]; simp]
    exact hW8
  have hbw8 : Below w.heap.size w w8 := hbA.trans (hK8.below hbA.size hWA.foot)
  clear hW8 hK8 hWA hbA
  go_wp2_with fail
  refine (WBytes_any _ p x8 _ _ HW8.out (by have := HFL.out; have := HN.out; rw [sealF_len]; omega)).mono ?_
  rintro e w9 ⟨v9, rfl, hown9, hb9⟩
  have HR : Hid (OwnB w.heap.size w9 v9 (sealF kind l) ∧ Below w.heap.size w w9) := ⟨hown9.rebase (fun g hg => Nat.le_trans hbw8.size (hown9.lt g hg).1), hbw8.trans (hb9.mono hbw8.size)⟩
  obtain ⟨a9, c9, n9, hv9, -, -, -, -⟩ := hown9.bsn
  subst hv9
  clear hown9 hb9
  go_wp2
  go_ret2
  exact ⟨_, rfl, HR.out.1, HR.out.2⟩
end Go.Proofs.Ytammicdgpdnihaa
