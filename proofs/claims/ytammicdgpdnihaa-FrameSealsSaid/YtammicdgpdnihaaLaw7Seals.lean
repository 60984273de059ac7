/- The walk of the law FrameSeals: it returns true, and leaves what was there as it was. -/
import Derived.Test.YtammicdgpdnihaaLaw7Awake
namespace Go.Proofs.Ytammicdgpdnihaa
open Go.RowKit

set_option maxRecDepth 100000 in
set_option maxHeartbeats 4000000 in
theorem FrameSeals_walk (kind : UInt8) (a : Option Addr) (l : List UInt8) (n cap : Nat) (m : Int) (w : World) (hn : n = l.length) (hb : Bs w a cap l) (hm : -9223372036854775808 ≤ m ∧ m ≤ 9223372036854775807) :
    Calls Try.prog 12 #[.int .u8 (kind.toNat : Int), .slice a n cap, .int .i64 m] w fun e w' => e = .returned (.bool true) ∧ Below w.heap.size w w' := by
  have hf := hb.fits hn
  have HN := Lib.hid hn
  have HB := Lib.hid hb
  obtain ⟨hm1, hm2⟩ := hm
  have hkl := kind.toNat_lt
  obtain ⟨kd, hkd⟩ : ∃ d, d = kind.toNat := ⟨_, rfl⟩
  have HKD := Lib.hid hkd
  rw [← hkd] at hkl ⊢
  clear hn hb hkd
  by_cases h1 : 1000 < n
  · go_enter Try.func12, Try.ntmps12
    go_wp2_with (go_at_call 31; refine (awake7 _).mono ?_; rintro e w1 ⟨rfl, hb1⟩)
    go_ret
    exact ⟨rfl, hb1⟩
  have HOP : Hid (openF (sealF kind l) = (kind, l, 0)) := openF_seal kind l (by have := HN.out; omega)
  have HLN : Hid ((sealF kind l).length ≤ 10000) := by show _ ≤ _; have := HN.out; have := formV_le (v := l.length) (by omega); rw [sealF_len]; omega
  have HFL : Hid ((if (0 : Int) ≤ (n : Int) ∧ (n : Int) ≤ 1048576 then 5 + ((formV (Int.toNat (n : Int))).length : Int) + (n : Int) else 0) = ((sealF kind l).length : Int)) := by
    show _ = _
    rw [if_pos (by omega), Int.toNat_natCast, sealF_len, HN.out]
    omega
  go_enter Try.func12, Try.ntmps12
  go_wp2_with fail
  rw [HKD.out]
  refine (Seal_any kind a l n cap _ HN.out (by omega) HB.out).mono ?_
  rintro e w1 ⟨x, rfl, hox, hb1⟩
  rw [← HKD.out]
  obtain ⟨ax, cx, nx, hvx, hnx, hbx, -, -⟩ := hox.bsn
  subst hvx
  have HNX := Lib.hid hnx
  have HBX := Lib.hid hbx
  have HB1 := Lib.hid (HB.out.below hb1)
  have hnxl : nx ≤ 10000 := by rw [hnx]; exact HLN.out
  rw [← HNX.out] at HFL
  obtain ⟨S, hS⟩ : ∃ S, S = strB (sealF kind l) := ⟨_, rfl⟩
  have HS := Lib.hid hS
  have C1 : Hid (∀ w', Below w1.heap.size w1 w' → (convert 24 9 (.slice ax nx cx)).run Try.prog w' = .ok (.string S) w') := fun w' h => by
    rw [HS.out]; exact run_str HNX.out (HBX.out.below h)
  clear hox hnx hbx hS
  go_wp2_with fail
  refine hStart (fun w' => Below w1.heap.size w1 w') (by kernel_rfl) ?_
  have hHeld := (Below.refl w1.heap.size w1).drew
  refine hTake 0 (v := ?_) rfl (by kernel_rfl) (by kernel_rfl) (by kernel_rfl) (fun _ _ _ h => h) (by rfl) ?_ hHeld ?_
  rotate_left
  · intro w hSw; (try dsimp only at hSw); go_simp; (try with_reducible rfl)
  try simp only [Act.put, List.setIfInBounds_toArray, List.set_cons_zero, List.set_cons_succ]
  refine hTake 1 (v := ?_) rfl (by kernel_rfl) (by kernel_rfl) (by kernel_rfl) (fun _ _ _ h => h) (by rfl) ?_ hHeld ?_
  rotate_left
  · intro w hSw; (try dsimp only at hSw); go_simp; (try with_reducible rfl)
  try simp only [Act.put, List.setIfInBounds_toArray, List.set_cons_zero, List.set_cons_succ]
  refine hTake 2 (v := ?_) rfl (by kernel_rfl) (by kernel_rfl) (by kernel_rfl) (fun _ _ _ h => h) (by rfl) ?_ hHeld ?_
  rotate_left
  · intro w hSw; (try dsimp only at hSw); go_simp; (try with_reducible rfl)
  try simp only [Act.put, List.setIfInBounds_toArray, List.set_cons_zero, List.set_cons_succ]
  refine hTake 3 (v := ?_) rfl (by kernel_rfl) (by kernel_rfl) (by kernel_rfl) (fun _ _ _ h => h) (by rfl) ?_ hHeld ?_
  rotate_left
  · intro w hSw; (try dsimp only at hSw); go_simp; (try with_reducible rfl)
  try simp only [Act.put, List.setIfInBounds_toArray, List.set_cons_zero, List.set_cons_succ]
  refine hTake 5 (v := ?_) rfl (by kernel_rfl) (by kernel_rfl) (by kernel_rfl) (fun _ _ _ h => h) (by rfl) ?_ hHeld ?_
  rotate_left
  · intro w hSw; (try dsimp only at hSw); go_simp; (try with_reducible rfl)
  try simp only [Act.put, List.setIfInBounds_toArray, List.set_cons_zero, List.set_cons_succ]
  refine hTake 6 (v := ?_) rfl (by kernel_rfl) (by kernel_rfl) (by kernel_rfl) (fun _ _ _ h => h) (by rfl) ?_ hHeld ?_
  rotate_left
  · intro w hSw; (try dsimp only at hSw); go_simp; (try with_reducible rfl)
  try simp only [Act.put, List.setIfInBounds_toArray, List.set_cons_zero, List.set_cons_succ]
  refine hTake 4 (v := (.string S)) rfl (by kernel_rfl) (by kernel_rfl) (by kernel_rfl) (fun _ _ _ h => h) (by rfl) ?_ hHeld ?_
  · intro w hSw; have h1 := C1.out w hSw; go_simp; (try with_reducible rfl)
  try simp only [Act.put, List.setIfInBounds_toArray, List.set_cons_zero, List.set_cons_succ]
  refine hStep 7 rfl (by kernel_rfl) (by rfl) (fun K hK => ?_)
  have HK := Lib.hid hK
  clear hK
  go_simp
  rw [HKD.out]
  refine (refSeal_any kind a l n cap _ HN.out (by omega) (HB1.out.below (Below.refl w1.heap.size w1).drew)).mono ?_
  rintro e w2 ⟨y, rfl, hoy, hb2⟩
  rw [← HKD.out]
  obtain ⟨ay, cy, ny, hvy, hny, hby, -, -⟩ := hoy.bsn
  rw [hvy]
  have hb12 : Below w1.heap.size w1 w2 := hHeld.trans (hb2.mono hHeld.size)
  have C2 : Hid (∀ w', Below w2.heap.size w2 w' → (convert 24 9 (.slice ay ny cy)).run Try.prog w' = .ok (.string S) w') := fun w' h => by
    rw [HS.out]; exact run_str hny (hby.below h)
  clear hvy hoy hny hby hb2
  have hHeldN := hb12
  refine HK.out _ _ hHeldN ?_
  clear HK K hHeld
  have hHeld := hHeldN
  clear hHeldN
  try simp only [Act.put, List.setIfInBounds_toArray, List.set_cons_zero, List.set_cons_succ]
  refine hSwitch (S2 := fun w' => Below w2.heap.size w2 w') (fun w' hw' => hb12.trans (hw'.mono hb12.size)) _ _ _ _ ?_
  clear hHeld
  have hHeld := Below.refl w2.heap.size w2
  refine hTake 8 (v := (.string S)) rfl (by kernel_rfl) (by kernel_rfl) (by kernel_rfl) (fun _ _ _ h => h) (by rfl) ?_ hHeld ?_
  · intro w hSw; have h1 := C2.out w hSw; go_simp; (try with_reducible rfl)
  try simp only [Act.put, List.setIfInBounds_toArray, List.set_cons_zero, List.set_cons_succ]
  refine hTake 9 (v := ?_) rfl (by kernel_rfl) (by kernel_rfl) (by kernel_rfl) (fun _ _ _ h => h) (by rfl) ?_ hHeld ?_
  rotate_left
  · intro w hSw; (try dsimp only at hSw); go_simp; (try with_reducible rfl)
  try simp only [Act.put, List.setIfInBounds_toArray, List.set_cons_zero, List.set_cons_succ]
  refine hTake 10 (v := ?_) rfl (by kernel_rfl) (by kernel_rfl) (by kernel_rfl) (fun _ _ _ h => h) (by rfl) ?_ hHeld ?_
  rotate_left
  · intro w hSw; (try dsimp only at hSw); go_simp; (try with_reducible rfl)
  try simp only [Act.put, List.setIfInBounds_toArray, List.set_cons_zero, List.set_cons_succ]
  refine hTake 11 (v := ?_) rfl (by kernel_rfl) (by kernel_rfl) (by kernel_rfl) (fun _ _ _ h => h) (by rfl) ?_ hHeld ?_
  rotate_left
  · intro w hSw; (try dsimp only at hSw); go_simp; (try with_reducible rfl)
  try simp only [Act.put, List.setIfInBounds_toArray, List.set_cons_zero, List.set_cons_succ]
  refine hTake 12 (v := ?_) rfl (by kernel_rfl) (by kernel_rfl) (by kernel_rfl) (fun _ _ _ h => h) (by rfl) ?_ hHeld ?_
  rotate_left
  · intro w hSw; (try dsimp only at hSw); go_simp; (try with_reducible rfl)
  try simp only [Act.put, List.setIfInBounds_toArray, List.set_cons_zero, List.set_cons_succ]
  refine hTake 13 (v := ?_) rfl (by kernel_rfl) (by kernel_rfl) (by kernel_rfl) (fun _ _ _ h => h) (by rfl) ?_ hHeld ?_
  rotate_left
  · intro w hSw; (try dsimp only at hSw); go_simp; (try with_reducible rfl)
  try simp only [Act.put, List.setIfInBounds_toArray, List.set_cons_zero, List.set_cons_succ]
  refine hTake 15 (v := ?_) rfl (by kernel_rfl) (by kernel_rfl) (by kernel_rfl) (fun _ _ _ h => h) (by rfl) ?_ hHeld ?_
  rotate_left
  · intro w hSw; (try dsimp only at hSw); go_simp; (try with_reducible rfl)
  try simp only [Act.put, List.setIfInBounds_toArray, List.set_cons_zero, List.set_cons_succ]
  refine hTake 16 (v := ?_) rfl (by kernel_rfl) (by kernel_rfl) (by kernel_rfl) (fun _ _ _ h => h) (by rfl) ?_ hHeld ?_
  rotate_left
  · intro w hSw; (try dsimp only at hSw); go_simp; (try with_reducible rfl)
  try simp only [Act.put, List.setIfInBounds_toArray, List.set_cons_zero, List.set_cons_succ]
  refine hStep 14 rfl (by kernel_rfl) (by rfl) (fun K hK => ?_)
  have HK := Lib.hid hK
  clear hK
  go_simp
  refine (FLen_any (n : Int) _ (by omega) (by omega)).mono ?_
  rintro e w3 ⟨rfl, rfl⟩
  rw [HFL.out]
  have hHeldN := hHeld
  refine HK.out _ _ hHeldN ?_
  clear HK K hHeld
  have hHeld := hHeldN
  clear hHeldN
  try simp only [Act.put, List.setIfInBounds_toArray, List.set_cons_zero, List.set_cons_succ]
  refine hTake 17 (v := ?_) rfl (by kernel_rfl) (by kernel_rfl) (by kernel_rfl) (fun _ _ _ h => h) (by rfl) ?_ hHeld ?_
  rotate_left
  · intro w hSw; (try dsimp only at hSw); go_simp; (try with_reducible rfl)
  try simp only [Act.put, List.setIfInBounds_toArray, List.set_cons_zero, List.set_cons_succ]
  refine hTake 18 (v := ?_) rfl (by kernel_rfl) (by kernel_rfl) (by kernel_rfl) (fun _ _ _ h => h) (by rfl) ?_ hHeld ?_
  rotate_left
  · intro w hSw; (try dsimp only at hSw); go_simp; (try with_reducible rfl)
  try simp only [Act.put, List.setIfInBounds_toArray, List.set_cons_zero, List.set_cons_succ]
  refine hDone (by kernel_rfl) ?_
  show NoPanic _ _ _ _
  refine NoPanic.normal ?_
  have hbw2 := hb1.trans (hb12.mono hb1.size)
  clear hHeld C2
  go_wp2_with fail
  refine (Open_any ax (sealF kind l) nx cx _ HNX.out (by omega) (HBX.out.below hb12)).mono ?_
  rintro e w3 ⟨⟨z, rfl, hoz⟩, hb3⟩
  rw [HOP.out] at hoz ⊢
  obtain ⟨az, cz, nz, hvz, hnz, hbz, -, -⟩ := hoz.bsn
  subst hvz
  have hbw3 := hbw2.trans (hb3.mono hbw2.size)
  obtain ⟨S2, hS2⟩ : ∃ S, S = strB l := ⟨_, rfl⟩
  have C3 : (convert 24 9 (.slice az nz cz)).run Try.prog w3 = .ok (.string S2) w3 := by
    rw [hS2]; exact run_str hnz hbz
  have C4 : (convert 24 9 (.slice a n cap)).run Try.prog w3 = .ok (.string S2) w3 := by
    rw [hS2]; exact run_str HN.out (HB.out.below hbw3)
  dsimp only
  rw [← HKD.out]
  clear hoz hnz hbz hS2 hb3
  by_cases hr : 0 ≤ m ∧ m ≤ 1048576
  · obtain ⟨hr1, hr2⟩ := hr
    obtain ⟨k, rfl⟩ : ∃ k : Nat, m = k := ⟨m.toNat, by omega⟩
    have HF3 : Hid ((if (0 : Int) ≤ (k : Int) ∧ (k : Int) ≤ 1048576 then 5 + ((formV (Int.toNat (k : Int))).length : Int) + (k : Int) else 0) = 5 + ((formV k).length : Int) + (k : Int)) := by
      show _ = _
      rw [if_pos (by omega), Int.toNat_natCast]
    have HF4 := Lib.hid (formV_le (v := k) (by omega))
    go_wp2_with fail
    refine (Form_any k _ (by omega)).mono ?_
    rintro e w4 ⟨u, rfl, hou, hb4⟩
    obtain ⟨au, cu, nu, hvu, hnu, -, -, -⟩ := hou.bsn
    subst hvu
    rw [← hnu] at HF3
    have hnul : nu ≤ 10 := by rw [hnu]; exact HF4.out
    have hbw4 := hbw3.trans (hb4.mono hbw3.size)
    clear hou hnu hb4
    go_wp2_with fail
    refine (FLen_any (k : Int) _ (by omega) (by omega)).mono ?_
    rintro e w5 ⟨rfl, rfl⟩
    rw [HF3.out]
    go_wp2_with (go_at_call 31; refine (awake7 _).mono ?_; rintro e w6 ⟨rfl, hb6⟩)
    go_ret
    exact ⟨rfl, hbw4.trans (hb6.mono hbw4.size)⟩
  · have HF3 : Hid ((if (0 : Int) ≤ m ∧ m ≤ 1048576 then 5 + ((formV m.toNat).length : Int) + m else 0) = 0) := if_neg hr
    by_cases hneg : m < 0
    · clear hr
      go_wp2_with fail
      refine (FLen_any m _ (by omega) (by omega)).mono ?_
      rintro e w5 ⟨rfl, rfl⟩
      rw [HF3.out]
      go_wp2_with (go_at_call 31; refine (awake7 _).mono ?_; rintro e w6 ⟨rfl, hb6⟩)
      go_ret
      exact ⟨rfl, hbw3.trans (hb6.mono hbw3.size)⟩
    · have hbig : 1048576 < m := by omega
      clear hr
      go_wp2_with fail
      refine (FLen_any m _ (by omega) (by omega)).mono ?_
      rintro e w5 ⟨rfl, rfl⟩
      rw [HF3.out]
      go_wp2_with (go_at_call 31; refine (awake7 _).mono ?_; rintro e w6 ⟨rfl, hb6⟩)
      go_ret
      exact ⟨rfl, hbw3.trans (hb6.mono hbw3.size)⟩
end Go.Proofs.Ytammicdgpdnihaa
