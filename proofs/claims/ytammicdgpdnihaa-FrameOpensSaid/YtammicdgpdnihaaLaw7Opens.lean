/- The walk of the law FrameOpens: it returns true, and leaves what was there as it was. -/
import Derived.Test.YtammicdgpdnihaaLaw7Awake
namespace Go.Proofs.Ytammicdgpdnihaa
open Go.RowKit

set_option maxRecDepth 100000 in
set_option maxHeartbeats 4000000 in
theorem FrameOpens_walk (a : Option Addr) (L : List UInt8) (n cap : Nat) (w : World) (hn : n = L.length) (hb : Bs w a cap L) :
    Calls Try.prog 10 #[.slice a n cap] w fun e w' => e = .returned (.bool true) ∧ Below w.heap.size w w' := by
  have hf := hb.fits hn
  have HN := Lib.hid hn
  have HB := Lib.hid hb
  clear hn hb
  by_cases h1 : 1000 < n
  · go_enter Try.func10, Try.ntmps10
    go_wp2_with (go_at_call 31; refine (awake7 _).mono ?_; rintro e w1 ⟨rfl, hb1⟩)
    go_ret
    exact ⟨rfl, hb1⟩
  go_enter Try.func10, Try.ntmps10
  go_wp2_with fail
  refine (Open_any a L n cap _ HN.out (by omega) HB.out).mono ?_
  rintro e w1 ⟨⟨x, rfl, hox⟩, hb1⟩
  obtain ⟨ax, cx, nx, hvx, hnx, hbx, -, -⟩ := hox.bsn
  subst hvx
  have HNX := Lib.hid hnx
  have HBX := Lib.hid hbx
  clear hox hnx hbx
  obtain ⟨R, hR⟩ : ∃ R, R = openF L := ⟨_, rfl⟩
  have HR := Lib.hid hR
  rw [← hR] at HNX HBX ⊢
  obtain ⟨rk, rl, rw'⟩ := R
  dsimp only at HNX HBX ⊢
  obtain ⟨kd, hkd⟩ : ∃ d, d = rk.toNat := ⟨_, rfl⟩
  have HKD := Lib.hid hkd
  have hkl : kd < 256 := by rw [hkd]; exact rk.toNat_lt
  rw [← hkd]
  clear hR hkd
  go_wp2_with fail
  refine (refFront_any a L n cap _ HN.out (by omega) (HB.out.below hb1)).mono ?_
  rintro e w2 ⟨⟨a2, c2, n2, rfl, hn2, hb2⟩, hbel2⟩
  have hbw2 : Below w.heap.size w w2 := hb1.trans (hbel2.mono hb1.size)
  have HN2 := Lib.hid hn2
  have HB2 := Lib.hid hb2
  have HBX2 := Lib.hid (HBX.out.below hbel2)
  clear hn2 hb2
  by_cases hy : (frontF L).why = 0
  · have HS := Lib.hid (frontF_sound hy)
    have HO : Hid (openF L = if (frontF L).n < L.length then (0, [], 5) else ((frontF L).kind, (frontF L).load, 0)) := by show _ = _; unfold openF; rw [if_neg (by omega)]
    rw [hy]
    obtain ⟨F, hF⟩ : ∃ F, F = frontF L := ⟨_, rfl⟩
    rw [← hF] at HS HO HN2 HB2 hy ⊢
    clear hF
    obtain ⟨fk, fl, m, fw⟩ := F
    dsimp only at HS HO HN2 HB2 hy ⊢
    have hmn : m ≤ n := by have h5 := HS.out.2.1; have h6 := HN.out; omega
    by_cases hlt : m < n
    · have HX : Hid ((rk, rl, rw') = (0, [], 5)) := by show _ = _; rw [HR.out, HO.out, if_pos (by have := HN.out; omega)]
      have hx := HX.out
      simp only [Prod.mk.injEq] at hx
      obtain ⟨rfl, rfl, rfl⟩ := hx
      have hnx0 : nx = 0 := HNX.out
      have hkd0 : kd = 0 := HKD.out
      subst hnx0 hkd0
      clear HX hy
      go_wp2_with (go_at_call 31; refine (awake7 _).mono ?_; rintro e w3 ⟨rfl, hb3⟩)
      go_ret
      exact ⟨rfl, hbw2.trans (hb3.mono hbw2.size)⟩
    · have HX : Hid ((rk, rl, rw') = (fk, fl, 0)) := by show _ = _; rw [HR.out, HO.out, if_neg (by have := HN.out; omega)]
      have hx := HX.out
      simp only [Prod.mk.injEq] at hx
      obtain ⟨rfl, rfl, rfl⟩ := hx
      have HSL : Hid (sealF rk rl = L) := by show _ = _; rw [← HS.out.1, List.take_of_length_le (by have := HN.out; omega)]
      have HLL : Hid (rl.length ≤ 1048576) := HS.out.2.2.2
      rw [← HKD.out]
      obtain ⟨S1, hS1⟩ : ∃ S, S = strB rl := ⟨_, rfl⟩
      have HS1 := Lib.hid hS1
      obtain ⟨S2, hS2⟩ : ∃ S, S = strB L := ⟨_, rfl⟩
      have HS2 := Lib.hid hS2
      have C1 : Hid (∀ w', Below w2.heap.size w2 w' → (convert 24 9 (.slice ax nx cx)).run Try.prog w' = .ok (.string S1) w') := fun w' h => by
        rw [HS1.out]; exact run_str HNX.out (HBX2.out.below h)
      have C2 : Hid (∀ w', Below w2.heap.size w2 w' → (convert 24 9 (.slice a2 n2 c2)).run Try.prog w' = .ok (.string S1) w') := fun w' h => by
        rw [HS1.out]; exact run_str HN2.out (HB2.out.below h)
      have C3 : Hid (∀ w', Below w2.heap.size w2 w' → (convert 24 9 (.slice a n cap)).run Try.prog w' = .ok (.string S2) w') := fun w' h => by
        rw [HS2.out]; exact run_str HN.out (HB.out.below (hbw2.trans (h.mono hbw2.size)))
      clear HX hy hS1 hS2
      go_wp2_with fail
      refine hStart (fun w' => Below w2.heap.size w2 w') (by kernel_rfl) ?_
      have hHeld := (Below.refl w2.heap.size w2).drew
      refine hTake 0 (v := ?_) rfl (by kernel_rfl) (by kernel_rfl) (by kernel_rfl) (fun _ _ _ h => h) (by rfl) ?_ hHeld ?_
      rotate_left
      · intro w hSw; (try dsimp only at hSw); go_simp; (try with_reducible rfl)
      try simp only [Act.put, List.setIfInBounds_toArray, List.set_cons_zero, List.set_cons_succ]
      refine hTake 1 (v := ?_) rfl (by kernel_rfl) (by kernel_rfl) (by kernel_rfl) (fun _ _ _ h => h) (by rfl) ?_ hHeld ?_
      rotate_left
      · intro w hSw; (try dsimp only at hSw); go_simp; (try with_reducible rfl)
      try simp only [Act.put, List.setIfInBounds_toArray, List.set_cons_zero, List.set_cons_succ]
      refine hTake 2 (v := ?_) rfl (by kernel_rfl) (by kernel_rfl) (by kernel_rfl) (fun _ _ _ h => h) (by rfl) ?_ hHeld ?_
      rotate_left
      · intro w hSw; (try dsimp only at hSw); go_simp; (try with_reducible rfl)
      try simp only [Act.put, List.setIfInBounds_toArray, List.set_cons_zero, List.set_cons_succ]
      refine hTake 3 (v := ?_) rfl (by kernel_rfl) (by kernel_rfl) (by kernel_rfl) (fun _ _ _ h => h) (by rfl) ?_ hHeld ?_
      rotate_left
      · intro w hSw; (try dsimp only at hSw); go_simp; (try with_reducible rfl)
      try simp only [Act.put, List.setIfInBounds_toArray, List.set_cons_zero, List.set_cons_succ]
      refine hTake 4 (v := ?_) rfl (by kernel_rfl) (by kernel_rfl) (by kernel_rfl) (fun _ _ _ h => h) (by rfl) ?_ hHeld ?_
      rotate_left
      · intro w hSw; (try dsimp only at hSw); go_simp; (try with_reducible rfl)
      try simp only [Act.put, List.setIfInBounds_toArray, List.set_cons_zero, List.set_cons_succ]
      refine hTake 6 (v := ?_) rfl (by kernel_rfl) (by kernel_rfl) (by kernel_rfl) (fun _ _ _ h => h) (by rfl) ?_ hHeld ?_
      rotate_left
      · intro w hSw; (try dsimp only at hSw); go_simp; (try with_reducible rfl)
      try simp only [Act.put, List.setIfInBounds_toArray, List.set_cons_zero, List.set_cons_succ]
      refine hTake 5 (v := (.string S1)) rfl (by kernel_rfl) (by kernel_rfl) (by kernel_rfl) (fun _ _ _ h => h) (by rfl) ?_ hHeld ?_
      · intro w hSw; have h1 := C1.out w hSw; go_simp; (try with_reducible rfl)
      try simp only [Act.put, List.setIfInBounds_toArray, List.set_cons_zero, List.set_cons_succ]
      refine hTake 7 (v := (.string S1)) rfl (by kernel_rfl) (by kernel_rfl) (by kernel_rfl) (fun _ _ _ h => h) (by rfl) ?_ hHeld ?_
      · intro w hSw; have h1 := C2.out w hSw; go_simp; (try with_reducible rfl)
      try simp only [Act.put, List.setIfInBounds_toArray, List.set_cons_zero, List.set_cons_succ]
      refine hTake 8 (v := ?_) rfl (by kernel_rfl) (by kernel_rfl) (by kernel_rfl) (fun _ _ _ h => h) (by rfl) ?_ hHeld ?_
      rotate_left
      · intro w hSw; (try dsimp only at hSw); go_simp; (try with_reducible rfl)
      try simp only [Act.put, List.setIfInBounds_toArray, List.set_cons_zero, List.set_cons_succ]
      refine hTake 9 (v := ?_) rfl (by kernel_rfl) (by kernel_rfl) (by kernel_rfl) (fun _ _ _ h => h) (by rfl) ?_ hHeld ?_
      rotate_left
      · intro w hSw; (try dsimp only at hSw); go_simp; (try with_reducible rfl)
      try simp only [Act.put, List.setIfInBounds_toArray, List.set_cons_zero, List.set_cons_succ]
      refine hTake 10 (v := ?_) rfl (by kernel_rfl) (by kernel_rfl) (by kernel_rfl) (fun _ _ _ h => h) (by rfl) ?_ hHeld ?_
      rotate_left
      · intro w hSw; (try dsimp only at hSw); go_simp; (try with_reducible rfl)
      try simp only [Act.put, List.setIfInBounds_toArray, List.set_cons_zero, List.set_cons_succ]
      refine hTake 11 (v := ?_) rfl (by kernel_rfl) (by kernel_rfl) (by kernel_rfl) (fun _ _ _ h => h) (by rfl) ?_ hHeld ?_
      rotate_left
      · intro w hSw; (try dsimp only at hSw); go_simp; (try with_reducible rfl)
      try simp only [Act.put, List.setIfInBounds_toArray, List.set_cons_zero, List.set_cons_succ]
      refine hTake 12 (v := ?_) rfl (by kernel_rfl) (by kernel_rfl) (by kernel_rfl) (fun _ _ _ h => h) (by rfl) ?_ hHeld ?_
      rotate_left
      · intro w hSw; (try dsimp only at hSw); go_simp; (try with_reducible rfl)
      try simp only [Act.put, List.setIfInBounds_toArray, List.set_cons_zero, List.set_cons_succ]
      refine hTake 13 (v := ?_) rfl (by kernel_rfl) (by kernel_rfl) (by kernel_rfl) (fun _ _ _ h => h) (by rfl) ?_ hHeld ?_
      rotate_left
      · intro w hSw; (try dsimp only at hSw); go_simp; (try with_reducible rfl)
      try simp only [Act.put, List.setIfInBounds_toArray, List.set_cons_zero, List.set_cons_succ]
      refine hTake 14 (v := ?_) rfl (by kernel_rfl) (by kernel_rfl) (by kernel_rfl) (fun _ _ _ h => h) (by rfl) ?_ hHeld ?_
      rotate_left
      · intro w hSw; (try dsimp only at hSw); go_simp; (try with_reducible rfl)
      try simp only [Act.put, List.setIfInBounds_toArray, List.set_cons_zero, List.set_cons_succ]
      refine hTake 15 (v := ?_) rfl (by kernel_rfl) (by kernel_rfl) (by kernel_rfl) (fun _ _ _ h => h) (by rfl) ?_ hHeld ?_
      rotate_left
      · intro w hSw; (try dsimp only at hSw); go_simp; (try with_reducible rfl)
      try simp only [Act.put, List.setIfInBounds_toArray, List.set_cons_zero, List.set_cons_succ]
      refine hTake 16 (v := ?_) rfl (by kernel_rfl) (by kernel_rfl) (by kernel_rfl) (fun _ _ _ h => h) (by rfl) ?_ hHeld ?_
      rotate_left
      · intro w hSw; (try dsimp only at hSw); go_simp; (try with_reducible rfl)
      try simp only [Act.put, List.setIfInBounds_toArray, List.set_cons_zero, List.set_cons_succ]
      refine hTake 19 (v := ?_) rfl (by kernel_rfl) (by kernel_rfl) (by kernel_rfl) (fun _ _ _ h => h) (by rfl) ?_ hHeld ?_
      rotate_left
      · intro w hSw; (try dsimp only at hSw); go_simp; (try with_reducible rfl)
      try simp only [Act.put, List.setIfInBounds_toArray, List.set_cons_zero, List.set_cons_succ]
      refine hTake 20 (v := (.string S2)) rfl (by kernel_rfl) (by kernel_rfl) (by kernel_rfl) (fun _ _ _ h => h) (by rfl) ?_ hHeld ?_
      · intro w hSw; have h1 := C3.out w hSw; go_simp; (try with_reducible rfl)
      try simp only [Act.put, List.setIfInBounds_toArray, List.set_cons_zero, List.set_cons_succ]
      refine hStep 17 rfl (by kernel_rfl) (by rfl) (fun K hK => ?_)
      have HK := Lib.hid hK
      clear hK
      go_simp
      rw [HKD.out]
      refine (refSeal_any rk a2 rl n2 c2 _ HN2.out (by have := HN2.out; have := HLL.out; omega) (HB2.out.below (Below.refl w2.heap.size w2).drew)).mono ?_
      rintro e w3 ⟨y, rfl, hoy, hb3⟩
      rw [HSL.out] at hoy
      obtain ⟨ay, cy, ny, hvy, hny, hby, -, -⟩ := hoy.bsn
      rw [hvy]
      have hb23 : Below w2.heap.size w2 w3 := hHeld.trans (hb3.mono hHeld.size)
      have C4 : Hid (∀ w', Below w3.heap.size w3 w' → (convert 24 9 (.slice ay ny cy)).run Try.prog w' = .ok (.string S2) w') := fun w' h => by
        rw [HS2.out]; exact run_str hny (hby.below h)
      clear hvy hoy hny hby hb3
      have hHeldN := hb23
      refine HK.out _ _ hHeldN ?_
      clear HK K hHeld
      have hHeld := hHeldN
      clear hHeldN
      try simp only [Act.put, List.setIfInBounds_toArray, List.set_cons_zero, List.set_cons_succ]
      refine hSwitch (S2 := fun w' => Below w3.heap.size w3 w') (fun w' hw' => hb23.trans (hw'.mono hb23.size)) _ _ _ _ ?_
      clear hHeld
      have hHeld := Below.refl w3.heap.size w3
      refine hTake 18 (v := (.string S2)) rfl (by kernel_rfl) (by kernel_rfl) (by kernel_rfl) (fun _ _ _ h => h) (by rfl) ?_ hHeld ?_
      · intro w hSw; have h1 := C4.out w hSw; go_simp; (try with_reducible rfl)
      try simp only [Act.put, List.setIfInBounds_toArray, List.set_cons_zero, List.set_cons_succ]
      refine hTake 21 (v := ?_) rfl (by kernel_rfl) (by kernel_rfl) (by kernel_rfl) (fun _ _ _ h => h) (by rfl) ?_ hHeld ?_
      rotate_left
      · intro w hSw; (try dsimp only at hSw); go_simp; (try with_reducible rfl)
      try simp only [Act.put, List.setIfInBounds_toArray, List.set_cons_zero, List.set_cons_succ]
      refine hTake 22 (v := ?_) rfl (by kernel_rfl) (by kernel_rfl) (by kernel_rfl) (fun _ _ _ h => h) (by rfl) ?_ hHeld ?_
      rotate_left
      · intro w hSw; (try dsimp only at hSw); go_simp; (try with_reducible rfl)
      try simp only [Act.put, List.setIfInBounds_toArray, List.set_cons_zero, List.set_cons_succ]
      refine hTake 23 (v := ?_) rfl (by kernel_rfl) (by kernel_rfl) (by kernel_rfl) (fun _ _ _ h => h) (by rfl) ?_ hHeld ?_
      rotate_left
      · intro w hSw; (try dsimp only at hSw); go_simp; (try with_reducible rfl)
      try simp only [Act.put, List.setIfInBounds_toArray, List.set_cons_zero, List.set_cons_succ]
      refine hStep 24 rfl (by kernel_rfl) (by rfl) (fun K hK => ?_)
      have HK := Lib.hid hK
      clear hK
      go_simp
      refine (awake7 _).mono ?_
      rintro e w4 ⟨rfl, hb4⟩
      have hHeldN := hb4
      refine HK.out _ _ hHeldN ?_
      clear HK K hHeld
      have hHeld := hHeldN
      clear hHeldN
      try simp only [Act.put, List.setIfInBounds_toArray, List.set_cons_zero, List.set_cons_succ]
      refine hTake 25 (v := ?_) rfl (by kernel_rfl) (by kernel_rfl) (by kernel_rfl) (fun _ _ _ h => h) (by rfl) ?_ hHeld ?_
      rotate_left
      · intro w hSw; (try dsimp only at hSw); go_simp; (try with_reducible rfl)
      try simp only [Act.put, List.setIfInBounds_toArray, List.set_cons_zero, List.set_cons_succ]
      refine hTake 26 (v := ?_) rfl (by kernel_rfl) (by kernel_rfl) (by kernel_rfl) (fun _ _ _ h => h) (by rfl) ?_ hHeld ?_
      rotate_left
      · intro w hSw; (try dsimp only at hSw); go_simp; (try with_reducible rfl)
      try simp only [Act.put, List.setIfInBounds_toArray, List.set_cons_zero, List.set_cons_succ]
      refine hDone (by kernel_rfl) ?_
      show NoPanic _ _ _ _
      refine NoPanic.normal ?_
      have hbw3 := hbw2.trans (hb23.mono hbw2.size)
      go_wp2
      go_ret
      exact ⟨rfl, hbw3.trans (hb4.mono hbw3.size)⟩
  · have HX := Lib.hid (frontF_why hy)
    have HO : Hid (openF L = (0, [], (frontF L).why)) := by show _ = _; unfold openF; rw [if_pos hy]
    obtain ⟨y, hyd⟩ : ∃ y, y = (frontF L).why := ⟨_, rfl⟩
    rw [← hyd] at hy HO HX
    rw [HX.out]
    have hx : (rk, rl, rw') = (0, [], y) := by rw [HR.out, HO.out]
    simp only [Prod.mk.injEq] at hx
    obtain ⟨rfl, rfl, rfl⟩ := hx
    have hnx0 : nx = 0 := HNX.out
    have hkd0 : kd = 0 := HKD.out
    subst hnx0 hkd0
    have hy2 : ((rw' : Int) != 0) = true := by rw [bne_iff_ne]; omega
    have hy3 : ((rw' : Int) == 0) = false := by rw [beq_eq_false_iff_ne]; omega
    clear hyd hy
    dsimp only [badF]
    go_wp2_with (go_at_call 31; refine (awake7 _).mono ?_; rintro e w3 ⟨rfl, hb3⟩)
    go_ret
    exact ⟨rfl, hbw2.trans (hb3.mono hbw2.size)⟩
end Go.Proofs.Ytammicdgpdnihaa
