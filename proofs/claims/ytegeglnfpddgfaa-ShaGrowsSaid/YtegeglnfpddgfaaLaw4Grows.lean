/- The walk of the law ShaGrows: it returns true, and leaves what was there as it was. -/
import Derived.Test.YtegeglnfpddgfaaShaEq
import Derived.Test.YtegeglnfpddgfaaLaw4Awake
namespace Go.Proofs.Ytegeglnfpddgfaa
open Go.RowKit

set_option maxRecDepth 100000 in
set_option maxHeartbeats 2000000 in
theorem ShaGrows_walk (a : Option Addr) (ls : List (List UInt8)) (n cap : Nat) (w : World) (hn : n = ls.length) (hb : Bss w a cap ls) :
    Calls Try.prog 5 #[.slice a n cap] w fun e w' => e = .returned (.bool true) ∧ Below w.heap.size w w' := by
  have hl := hb.fits hn
  have HN := Lib.hid hn
  have HB := Lib.hid hb
  clear hb hn
  by_cases h1 : 20 < n
  · go_enter Try.func5, Try.ntmps5
    go_wp2_with (go_at_call 6; refine (awake4 _).mono ?_; rintro e w1 ⟨rfl, hb1⟩)
    go_ret
    exact ⟨rfl, hb1⟩
  go_enter Try.func5, Try.ntmps5
  go_wp2_with fail
  refine (New_any _).mono ?_
  rintro e w1 ⟨p, rfl, hs1, hb1⟩
  have HS1 := Lib.hid hs1
  have HB1 := Lib.hid hb1
  have hpB : w.heap.size ≤ p := hs1.ge
  have HG32 := Lib.hid guard32
  clear hs1 hb1
  go_wp2_with fail
  go_loopw [4, 5] (fun x i wr => ∃ (k : Nat) (v : Value), k ≤ ls.length ∧ i = .int .i64 (k : Int) ∧ Hs w.heap.size wr p v (runN begin8 (ls.take k).flatten) (restN (ls.take k).flatten) (ls.take k).flatten.length ∧ OwnW w.heap.size wr x (ls.take k).flatten ∧ (∀ j, x.ownBlock = some j → ¬ HFoot p v j) ∧ (ls.take k).flatten.length ≤ 200 * k ∧ Below w.heap.size w wr) (fun _ i _ => n - (intOf i).toNat)
  case atStart => exact ⟨0, _, Nat.zero_le _, rfl, by simpa [runN_lt, restN_lt] using HS1.out, OwnW.start _ _, fun j hj => by simp [Value.ownBlock] at hj, by simp, HB1.out⟩
  case round =>
    clear HS1 HB1
    obtain ⟨k, v, hk, rfl, hs, how, hdis, hlen, hbr⟩ := hrel
    obtain ⟨ax, cx, nx, hvx, hnx, -, -, -⟩ := how.bsn
    subst hvx
    have HS := Lib.hid hs
    have HO := Lib.hid how
    have HDIS := Lib.hid hdis
    have HBR := Lib.hid hbr
    have HLEN := Lib.hid hlen
    have hszr : w.heap.size ≤ wr.heap.size := hbr.size
    clear hs how hdis hnx hlen
    by_cases hlt : k < n
    · have hkl : k < ls.length := by have := HN.out; omega
      obtain ⟨b, off, ai, ci, rfl, hc0, hblt, hbi⟩ := HB.out.at hkl
      have hc := (hbr.cell (p := ⟨b, off + k, none⟩) hblt).trans hc0
      obtain ⟨m, hm⟩ : ∃ m, m = (ls.getD k []).length := ⟨_, rfl⟩
      rw [← hm] at hc hc0
      have hmf : m ≤ 9223372036854775807 := hbi.fits hm
      have HM := Lib.hid hm
      have HBI := Lib.hid hbi
      have HC0 := Lib.hid hc0
      clear hm hbi hc0
      by_cases h200 : 200 < m
      · go_wp2_with (go_at_call 6; refine (awake4 _).mono ?_; rintro e w5 ⟨rfl, hb5⟩)
        go_ret
        exact ⟨rfl, HBR.out.trans (hb5.mono hszr)⟩
      clear hbr
      go_wp2_with fail
      have hfl := flat_take_succ ls k hkl
      refine (HWrite_any w.heap.size p v _ _ _ ai (ls.getD k []) m ci _ HS.out (restN_len _ _ rfl) HM.out ?_ ?_ hszr).mono ?_
      · have := HLEN.out; omega
      · intro w' hk'
        exact HBI.out.below (HBR.out.trans (hk'.below hszr HS.out.foot))
      rintro e w4 ⟨rfl, v4, hs4, hk4, hnr4⟩
      rw [← (run_more _ begin8 _ _ rfl).1, ← (run_more _ begin8 _ (ls.getD k []) rfl).2, ← hfl, HM.out, ← List.length_append, ← hfl] at hs4
      have hp4 : p < w4.heap.size := hs4.lt
      have hbr4 : Below w.heap.size w w4 := HBR.out.trans (hk4.below hszr HS.out.foot)
      have HOx : Hid (OwnW w.heap.size w4 (.slice ax nx cx) (ls.take k).flatten) := HO.out.keptT hk4 HDIS.out
      have HV4 : Hid (∀ j, (Value.slice ax nx cx).ownBlock = some j → ¬ HFoot p v4 j) := fun j hj hf => by
        rcases hf with rfl | hf
        · exact HDIS.out _ hj (.inl rfl)
        · rcases hnr4 j hf with h | h
          · exact HDIS.out j hj (.inr h)
          · have := (HO.out.lt j hj).2; omega
      have hsz4 : wr.heap.size ≤ w4.heap.size := hk4.size
      have hszw4 : w.heap.size ≤ w4.heap.size := hbr4.size
      have HS4 := Lib.hid hs4
      have HB4 := Lib.hid hbr4
      have hc4 : w4.cell? ⟨b, off + k, none⟩ = some (.slice ai m ci) := (hbr4.cell (p := ⟨b, off + k, none⟩) hblt).trans HC0.out
      have HRM : Hid ((ls.take k).flatten.length + m ≤ 140737488355328) := by show _ ≤ _; have := HLEN.out; omega
      have HFL : Hid ((ls.take (k + 1)).flatten = (ls.take k).flatten ++ ls.getD k []) := hfl
      have HKX : Hid (v4.ownBlock ≠ some p) := hs4.ne
      clear hs4 hk4 hnr4 hbr4 hfl hc
      go_wp2_with (at_builtin; refine wpList_append_w rfl (.tmp 30) (.tmp 34) rfl w.heap.size (.slice ax nx cx) _ rfl HOx.out ai m ci (ls.getD k []) rfl HM.out (HBI.out.below HB4.out) HRM.out hszw4 ?_; intro v5 w5 hown5 hk5 hnr5; obtain ⟨a5, c5, n5, hv5, hn5, hbs5, -, -⟩ := hown5.bsn; subst hv5; have HN5 := Lib.hid hn5; clear hn5)
      rw [← HFL.out] at hown5 HN5 hbs5
      have HS5 : Hid (Hs w.heap.size w5 p v4 (runN begin8 (ls.take (k + 1)).flatten) (restN (ls.take (k + 1)).flatten) n5) := by
        show Hs _ _ _ _ _ _ _
        rw [HN5.out]
        exact HS4.out.kept hk5 (fun e => HV4.out p e (.inl rfl)) (fun j hj e => HV4.out j e (.inr hj))
      have HB5 : Hid (Below w.heap.size w w5) := HB4.out.trans (hk5.below hszw4 (fun i hi => (HOx.out.lt i hi).1))
      have HD5 : Hid (∀ j, (Value.slice a5 n5 c5).ownBlock = some j → ¬ HFoot p v4 j) := fun j hj hf => by
        rcases hnr5 j hj with h | h
        · exact HV4.out j h hf
        · rcases hf with rfl | hf
          · omega
          · have := (HS4.out.own.lt j hf).2; omega
      have HO5 := Lib.hid hown5
      have HBS5 := Lib.hid hbs5
      have HLF : Hid ((ls.take (k + 1)).flatten.length ≤ 200 * (k + 1)) := by
        show _ ≤ _
        rw [HFL.out, List.length_append, ← HM.out]; have := HLEN.out; omega
      have HLEN5 : Hid (n5 ≤ 4200) := by show _ ≤ _; rw [HN5.out]; have := HLF.out; omega
      have hsz5 : w.heap.size ≤ w5.heap.size := HB5.out.size
      have HRL : Hid ((restN (ls.take (k + 1)).flatten).length < 64) := restN_len _ _ rfl
      have HRUN : Hid (bytesN (runN (runN begin8 (ls.take (k + 1)).flatten) (restN (ls.take (k + 1)).flatten ++ fillN n5)) = hashN (ls.take (k + 1)).flatten) := by show _ = _; rw [HN5.out]; exact hashN_run _
      have HHL : Hid ((hashN (ls.take (k + 1)).flatten).length = 32) := hashN_len _
      have HOF : Hid (∀ (a : Option Addr) (n cap : Nat) (w : World), n = 1 → Bss w a cap [(ls.take (k + 1)).flatten] → Calls Try.prog 8 #[.slice a n cap] w fun e w' => e = .returned (.agg (arrB (hashN (ls.take (k + 1)).flatten))) ∧ Below w.heap.size w w') := fun a n cap w hn hb => by
        have h := shaOf_any [(ls.take (k + 1)).flatten] a n cap w hn hb (by simp; have := HLF.out; simp at this; omega)
        rw [show ([(ls.take (k + 1)).flatten] : List (List UInt8)).flatten = (ls.take (k + 1)).flatten by simp] at h
        exact h
      have HRH := Lib.hid (fun (w : World) (h : Bs w a5 c5 (ls.take (k + 1)).flatten) => refHash_any a5 (ls.take (k + 1)).flatten n5 c5 w HN5.out h (by have := HLEN5.out; omega))
      generalize hS5 : runN begin8 (ls.take (k + 1)).flatten = S5 at *
      generalize hR5 : restN (ls.take (k + 1)).flatten = R5 at *
      have HSE := Lib.hid hS5
      have HRE := Lib.hid hR5
      clear hS5 hR5
      generalize hashN (ls.take (k + 1)).flatten = H at *
      have k32 : ∀ w, (Op.equalIn 10000 24 (.agg (arrB H)) (.agg (arrB H))).run Try.prog w = .ok true w := fun w => eql32 w H HHL.out
      have g32 : Try.prog.eqGuardType Try.prog.depth 24 = false := HG32.out
      clear HG32 hown5 hbs5 hk5 hnr5 HS4 HV4 HOx HO HS HDIS HKX
      refine (HLen_any _ p v4 _ _ n5 _ HS5.out).mono ?_
      rintro e w6 ⟨rfl, rfl⟩
      go_wp2_with fail
      refine (Sum_any _ p v4 _ _ n5 _ HS5.out HRL.out (by have := HLEN5.out; omega)).mono ?_
      rintro e w7 ⟨rfl, hb7⟩
      rw [HRUN.out]
      have HB7 := Lib.hid hb7
      clear hb7
      go_wp2_with fail
      refine (HRH.out w7 (HBS5.out.below HB7.out)).mono ?_
      rintro e w8 ⟨rfl, hb8⟩
      have HB8 := Lib.hid (HB7.out.trans (hb8.mono HB7.out.size))
      clear hb8
      go_wp2_with fail
      refine (Sum_any _ p v4 _ _ n5 _ (HS5.out.below HB8.out) HRL.out (by have := HLEN5.out; omega)).mono ?_
      rintro e w9 ⟨rfl, hb9⟩
      rw [HRUN.out]
      have HB9 := Lib.hid (HB8.out.trans (hb9.mono HB8.out.size))
      clear hb9
      go_wp2_with fail
      have hbA : Below _ w5 (w9.alloc (.cells #[.slice a5 n5 c5] 22)) := HB9.out.alloc HB9.out.size _
      refine (HOF.out _ 1 1 _ rfl (Bss.one _ HN5.out (heap_alloc_new _ _) (HBS5.out.below hbA))).mono ?_
      rintro e w10 ⟨rfl, hb10⟩
      have HB10 := Lib.hid (hbA.trans (hb10.mono hbA.size))
      clear hb10 hbA
      go_wp2_with fail
      have HF : Hid (Hs w.heap.size w10 p v4 S5 R5 n5 ∧ OwnW w.heap.size w10 (.slice a5 n5 c5) (ls.take (k + 1)).flatten ∧ Below w.heap.size w w10) := ⟨HS5.out.below HB10.out, HO5.out.below HB10.out, HB5.out.trans (HB10.out.mono hsz5)⟩
      clear k32 g32
      go_roundw
      case rel => exact ⟨k + 1, v4, by omega, by go_num, by rw [HSE.out, HRE.out, ← HN5.out]; exact HF.out.1, HF.out.2.1, HD5.out, HLF.out, HF.out.2.2⟩
      case measure => simp [intOf]; omega
    · obtain rfl : k = ls.length := by have := HN.out; omega
      go_wp2_with (go_at_call 6; refine (awake4 _).mono ?_; rintro e w5 ⟨rfl, hb5⟩)
      go_ret
      exact ⟨rfl, HBR.out.trans (hb5.mono hszr)⟩
end Go.Proofs.Ytegeglnfpddgfaa
