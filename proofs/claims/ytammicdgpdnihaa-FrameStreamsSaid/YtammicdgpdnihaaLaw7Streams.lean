/- The walk of the law FrameStreams: it returns true, and leaves what was there as it was. -/
import Derived.Test.YtammicdgpdnihaaLaw7Awake
import Derived.Test.YtammicdgpdnihaaFrameStream
namespace Go.Proofs.Ytammicdgpdnihaa
open Go.RowKit

set_option maxRecDepth 100000 in
set_option maxHeartbeats 8000000 in
theorem FrameStreams_walk (a : Option Addr) (L : List UInt8) (n cap : Nat) (w : World) (hn : n = L.length) (hb : Bs w a cap L) :
    Calls Try.prog 13 #[.slice a n cap] w fun e w' => e = .returned (.bool true) ∧ Below w.heap.size w w' := by
  have hf := hb.fits hn
  have HN := Lib.hid hn
  have HB := Lib.hid hb
  clear hn hb
  by_cases h1 : 1000 < n
  · go_enter Try.func13, Try.ntmps13
    go_wp2_with (go_at_call 31; refine (awake7 _).mono ?_; rintro e w1 ⟨rfl, hb1⟩)
    go_ret
    exact ⟨rfl, hb1⟩
  go_enter Try.func13, Try.ntmps13
  go_wp2_with fail
  refine (streamRead_any a L n cap _ HN.out (by omega) HB.out).mono ?_
  rintro e w1 ⟨p, g, rfl, hS1, hpw, -, hb1⟩
  have HS1 := Lib.hid hS1
  clear hS1
  go_wp2
  go_loopw [4, 5, 6, 7, 8, 9, 10, 11, 12] (fun at_ i _ _ _ _ _ _ _ wr => ∃ k j : Nat, k ≤ j ∧ j ≤ n ∧ i = .int .i64 (k : Int) ∧ at_ = .int .i64 (j : Int) ∧ St wr p g (L.drop j) ∧ Below w.heap.size w wr) (fun _ i _ _ _ _ _ _ _ _ => n + 1 - (intOf i).toNat)
  case atStart => exact ⟨0, 0, Nat.le_refl _, Nat.zero_le _, rfl, rfl, HS1.out, hb1⟩
  case round =>
    obtain ⟨k, j, hkj, hjn, rfl, rfl, hS, hbr⟩ := hrel
    have HS := Lib.hid hS
    have hLD : (L.drop j).length = n - j := by rw [List.length_drop, HN.out]
    have HLD := Lib.hid hLD
    obtain ⟨R, hR⟩ : ∃ R, R = n - j := ⟨_, rfl⟩
    have hRe : (n : Int) - (j : Int) = (R : Int) := by omega
    rw [← hR] at HLD
    have HRD := Lib.hid hR
    clear hS hLD hR
    by_cases hend : j = n
    · have HE : Hid (L.drop j = []) := List.drop_eq_nil_of_le (by have := HN.out; omega)
      have hR0 : R = 0 := by have := HRD.out; omega
      have HS0 : Hid (St wr p g []) := by show St _ _ _ _; rw [← HE.out]; exact HS.out
      subst hR0
      subst hend
      go_wp2_with fail
      refine (SLeft_any _ HS0.out).mono ?_
      rintro e w2 ⟨rfl, rfl⟩
      go_wp2_with fail
      refine (SNext_none _ HS0.out).mono ?_
      rintro e w2 ⟨rfl, rfl⟩
      go_wp2_with fail
      refine (SLeft_any _ HS0.out).mono ?_
      rintro e w2 ⟨rfl, rfl⟩
      go_wp2_with (go_at_call 31; refine (awake7 _).mono ?_; rintro e w6 ⟨rfl, hb6⟩)
      go_ret
      exact ⟨rfl, hbr.trans (hb6.mono hbr.size)⟩
    have hjn2 : ((j : Int) == (n : Int)) = false := by rw [beq_eq_false_iff_ne]; omega
    have HNE : Hid (L.drop j ≠ []) := fun h => by have := HLD.out; have := HRD.out; rw [h] at *; simp at *; omega
    obtain ⟨A1, hA1⟩ : ∃ A1, A1 = cutA a cap j := ⟨_, rfl⟩
    obtain ⟨c1, hc1⟩ : ∃ c1, c1 = cap - j := ⟨_, rfl⟩
    have hcut : ∀ w' : World, (Instr.sliceAt 24 (.slice a n cap) (some (.int .i64 (j : Int))) none none).run Try.prog w' = .ok (.slice A1 R c1) w' := fun w' => by
      rw [hA1, hc1, HRD.out]; exact run_cutFrom w' a n cap j (by omega)
    have HBC : Hid (∀ w', Below w.heap.size w w' → Bs w' A1 c1 (L.drop j)) := fun w' h => by
      rw [hA1, hc1]; exact (HB.out.below h).cutFrom (by have := HN.out; omega)
    have HCUT := Lib.hid hcut
    have hRl : R ≤ 1000 := by have := HRD.out; omega
    clear hA1 hc1 hcut
    go_wp2_with fail
    refine (SLeft_any _ HS.out).mono ?_
    rintro e w2 ⟨rfl, rfl⟩
    rw [HLD.out]
    go_wp2_with fail
    refine (SNext_any _ HS.out HNE.out (by have := HLD.out; omega)).mono ?_
    rintro e w2 ⟨⟨x, rfl, hox⟩, hS2, hK2⟩
    have hbw2 : Below w.heap.size w w2 := hbr.trans (hK2.below hbr.size (by rintro z rfl; exact hpw))
    obtain ⟨ax, cx, nx, hvx, hnx, hbx, -, hblx⟩ := hox.bsn
    subst hvx
    have HNX := Lib.hid hnx
    have HBX := Lib.hid hbx
    have HS2 := Lib.hid hS2
    have hcut := HCUT.out
    clear hox hnx hbx hS2 hK2
    obtain ⟨F, hF⟩ : ∃ F, F = frontF (L.drop j) := ⟨_, rfl⟩
    have HF := Lib.hid hF
    rw [← hF] at HNX HBX ⊢
    clear hF
    obtain ⟨fk, fl, m, fw⟩ := F
    dsimp only at HNX HBX ⊢
    obtain ⟨kd, hkd⟩ : ∃ d, d = fk.toNat := ⟨_, rfl⟩
    have HKD := Lib.hid hkd
    have hkl : kd < 256 := by rw [hkd]; exact fk.toNat_lt
    rw [← hkd]
    clear hkd
    go_wp2_with fail
    refine (refFront_any A1 (L.drop j) R c1 _ HLD.out.symm (by omega) (HBC.out _ hbw2)).mono ?_
    rintro e w3 ⟨⟨a3, c3, n3, rfl, hn3, hbs3⟩, hbel3⟩
    have hbw3 : Below w.heap.size w w3 := hbw2.trans (hbel3.mono hbw2.size)
    have HN3 := Lib.hid hn3
    have HB3 := Lib.hid hbs3
    have HBX3 := Lib.hid (HBX.out.below hbel3)
    have HS3 := Lib.hid (HS2.out.below hbel3)
    clear hn3 hbs3 hbel3
    rw [← HF.out] at HN3 HB3 ⊢
    dsimp only at HN3 HB3 ⊢
    rw [← HKD.out]
    by_cases hy : fw = 0
    · subst hy
      have hwhy : (frontF (L.drop j)).why = 0 := by rw [← HF.out]
      have hso := frontF_sound hwhy
      rw [← HF.out] at hso
      dsimp only at hso
      have hm1 : m ≤ R := by have := hso.2.1; have := HLD.out; omega
      have hm5 : 5 < m := hso.2.2.1
      have HNF : Hid (nextF (L.drop j) = L.drop (j + m)) := by
        show _ = _
        unfold nextF
        rw [if_pos hwhy, ← HF.out, List.drop_drop]
      obtain ⟨S1, hS1⟩ : ∃ S, S = strB fl := ⟨_, rfl⟩
      have C1 : (convert 24 9 (.slice ax nx cx)).run Try.prog w3 = .ok (.string S1) w3 := by
        rw [hS1]; exact run_str HNX.out HBX3.out
      have C2 : (convert 24 9 (.slice a3 n3 c3)).run Try.prog w3 = .ok (.string S1) w3 := by
        rw [hS1]; exact run_str HN3.out HB3.out
      have hRj : R = n - j := HRD.out
      have HJM : Hid (j + m ≤ n) := by show _ ≤ _; omega
      clear hwhy hso hS1 hRj
      go_wp2
      go_roundw
      case rel => exact ⟨k + 1, j + m, by omega, HJM.out, by go_num, by go_num, by rw [← HNF.out]; exact HS3.out, hbw3⟩
      case measure => have := HJM.out; simp [intOf] <;> omega
    · have hbad := frontF_why (L := L.drop j) (by rw [← HF.out]; exact hy)
      rw [← HF.out] at hbad
      simp only [badF, FR.mk.injEq, and_true] at hbad
      obtain ⟨rfl, rfl, rfl⟩ := hbad
      have hkd0 : kd = 0 := HKD.out
      have hnx0 : nx = 0 := HNX.out
      subst hkd0 hnx0
      have HNF : Hid (nextF (L.drop j) = L.drop j) := by
        show _ = _
        unfold nextF
        rw [if_neg (by rw [← HF.out]; exact hy)]
      rw [HNF.out] at HS3
      have hy2 : ((fw : Int) != 0) = true := by rw [bne_iff_ne]; omega
      have hy3 : ((fw : Int) == 0) = false := by rw [beq_eq_false_iff_ne]; omega
      clear hy
      go_wp2_with fail
      refine (SNext_any _ HS3.out HNE.out (by have := HLD.out; omega)).mono ?_
      rintro e w4 ⟨⟨x4, rfl, hox4⟩, hS4, hK4⟩
      have hbw4 : Below w.heap.size w w4 := hbw3.trans (hK4.below hbw3.size (by rintro z rfl; exact hpw))
      rw [← HF.out] at hox4 ⊢
      rw [HNF.out] at hS4
      dsimp only at hox4 ⊢
      obtain ⟨a4, c4, n4, hv4, hn4, -, -, -⟩ := hox4.bsn
      subst hv4
      have hn40 : n4 = 0 := hn4
      subst hn40
      have HS4 := Lib.hid hS4
      clear hox4 hn4 hS4 hK4
      go_wp2_with fail
      refine (SLeft_any _ HS4.out).mono ?_
      rintro e w5 ⟨rfl, rfl⟩
      rw [HLD.out]
      go_wp2_with (go_at_call 31; refine (awake7 _).mono ?_; rintro e w6 ⟨rfl, hb6⟩)
      go_ret
      exact ⟨rfl, hbw4.trans (hb6.mono hbw4.size)⟩
end Go.Proofs.Ytammicdgpdnihaa
