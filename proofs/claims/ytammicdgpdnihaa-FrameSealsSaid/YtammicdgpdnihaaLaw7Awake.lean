/- The walk of repertorylaw07.awake: chapter 7's example holds. -/
import Derived.Test.YtammicdgpdnihaaFrameRef
import Derived.Lib.SlBytesConst
namespace Go.Proofs.Ytammicdgpdnihaa
open Go.RowKit

set_option maxRecDepth 100000 in
set_option maxHeartbeats 1000000 in
theorem awake7 (w : World) : Calls Try.prog 31 #[] w fun e w' => e = .returned (.bool true) ∧ Below w.heap.size w w' := by
  have hf1 : formV 1 = [1] := formV_lt (by omega)
  have H1 : Hid ((sealF 5 [97]).length = 7) := by show _ = _; rw [sealF_len]; simp [hf1]
  have hs : sealF 5 [97] = 5 :: 1 :: 97 :: le4 (sumN (headF 5 [97])) := by unfold sealF headF; simp [hf1]
  have H2 : Hid ((sealF 5 [97]).getD 0 0 = 5 ∧ (sealF 5 [97]).getD 1 0 = 1 ∧ (sealF 5 [97]).getD 2 0 = 97) := by rw [hs]; exact ⟨rfl, rfl, rfl⟩
  have H3 : Hid (openF (sealF 5 [97]) = (5, [97], 0)) := openF_seal 5 [97] (by simp)
  have H4 : Hid (strB [97] = { data := #[97] }) := rfl
  clear hf1 hs
  have kc := fun (w : World) (C : Array Value) (n c : Nat) => Lib.run_convert_bytes_const (P := Try.prog) w 24 5 C n c Try.underlying24 Try.underlying5
  go_enter Try.func31, Try.ntmps31
  go_wp2_with fail
  refine (Seal_any 5 _ [97] 1 1 _ rfl (by omega) (Bs.lit (heap_alloc_new _ _) _ rfl 1 (Nat.le_refl _) (by decide))).mono ?_
  rintro e w1 ⟨x, rfl, hox, hb1⟩
  obtain ⟨ax, cx, nx, hvx, hnx, hbx, -, -⟩ := hox.bsn
  subst hvx
  rw [H1.out] at hnx
  subst hnx
  have hbw1 : Below w.heap.size w w1 := ((Below.refl _ _).alloc (Nat.le_refl _) _).trans (hb1.mono (by simp))
  have HBX := Lib.hid hbx
  obtain ⟨b, off, rfl, hc0, hbl⟩ := hbx.at (k := 0) (by rw [H1.out]; omega)
  obtain ⟨_, _, hab1, hc1, -⟩ := hbx.at (k := 1) (by rw [H1.out]; omega)
  obtain ⟨_, _, hab2, hc2, -⟩ := hbx.at (k := 2) (by rw [H1.out]; omega)
  cases hab1; cases hab2
  rw [H2.out.1] at hc0
  rw [H2.out.2.1] at hc1
  rw [H2.out.2.2] at hc2
  have hc0' : w1.cell? ⟨b, off, none⟩ = some (.int .u8 5) := hc0
  have hc1' : w1.cell? ⟨b, off + 1, none⟩ = some (.int .u8 1) := hc1
  have hc2' : w1.cell? ⟨b, off + 2, none⟩ = some (.int .u8 97) := hc2
  have HC : Hid (∀ w', Below w1.heap.size w1 w' → w'.cell? ⟨b, off, none⟩ = some (.int .u8 5) ∧ w'.cell? ⟨b, off + 1, none⟩ = some (.int .u8 1) ∧ w'.cell? ⟨b, off + 2, none⟩ = some (.int .u8 97)) := fun w' h =>
    ⟨by rw [h.cell hbl]; exact hc0', by rw [h.cell hbl]; exact hc1', by rw [h.cell hbl]; exact hc2'⟩
  clear hc0 hc1 hc2 hc0' hc1' hc2' hox hbx hb1
  go_wp2_with fail
  refine (Open_any _ (sealF 5 [97]) 7 cx _ H1.out.symm (by omega) HBX.out).mono ?_
  rintro e w2 ⟨⟨y, rfl, hoy⟩, hb2⟩
  rw [H3.out] at hoy ⊢
  obtain ⟨ay, cy, ny, hvy, hny, hby, -, -⟩ := hoy.bsn
  subst hvy
  have hs := run_str hny hby
  have hs' : (convert 24 9 (.slice ay ny cy)).run Try.prog w2 = .ok (.string { data := #[97] }) w2 := hs
  obtain ⟨h0, h1, h2⟩ := HC.out w2 hb2
  have hbw2 := hbw1.trans (hb2.mono hbw1.size)
  clear hoy hny hby hs hb2
  go_wp2
  go_ret
  exact ⟨rfl, hbw2⟩
end Go.Proofs.Ytammicdgpdnihaa
