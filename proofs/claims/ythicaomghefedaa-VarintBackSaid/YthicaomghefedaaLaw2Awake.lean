/- The walk of repertorylaw02.awake: chapter 2's examples hold. -/
import Derived.Test.YthicaomghefedaaVlist
namespace Go.Proofs.Ythicaomghefedaa
open Go.RowKit

set_option maxRecDepth 100000 in
set_option maxHeartbeats 1000000 in
theorem awake2 (w : World) : Calls Try.prog 25 #[] w fun e w' => e = .returned (.bool true) ∧ Below w.heap.size w w' := by
  have H1 : Hid (parseR 2 [1, 172, 2] = some [1, 300]) := by show _ = _; decide
  have H2 : Hid (takeR [128, 0] 0 9 = none) := by show _ = _; decide
  have H3 : Hid (flatV [300] = [172, 2]) := by show _ = _; rw [flatV_cons, formV_ge (by omega), formV_lt (by omega)]; decide
  have H4 : Hid (strB [172, 2] = { data := #[172, 2] }) := rfl
  go_enter Try.func25, Try.ntmps25
  go_wp2_with fail
  refine (Parse_any _ [1, 172, 2] 3 3 2 _ rfl (by omega) (Bs.lit (heap_alloc_new _ _) _ rfl 3 (by decide) (by decide)) (by omega) (by omega)).mono ?_
  rintro e w1 ⟨⟨x, rfl, hox⟩, hb1⟩
  rw [H1.out] at hox ⊢
  obtain ⟨ax, cx, nx, hvx, hnx, hbx, -, -⟩ := OwnN.bsn (l := [1, 300]) hox (by decide)
  subst hvx
  have hnx2 : nx = 2 := hnx
  subst hnx2
  obtain ⟨b, off, rfl, hc1, hbl, -⟩ := hbx.at (k := 1) (by decide)
  have hc1' : w1.cell? ⟨b, off + 1, none⟩ = some (.int .u64 300) := hc1
  have HC1 : Hid (∀ w', Below w1.heap.size w1 w' → w'.cell? ⟨b, off + 1, none⟩ = some (.int .u64 300)) := fun w' h => by rw [h.cell hbl]; exact hc1'
  have hbw1 : Below w.heap.size w w1 := ((Below.refl _ _).alloc (Nat.le_refl _) _).trans (hb1.mono (by simp))
  clear hox hnx hbx hc1 hc1' hb1
  go_wp2_with fail
  refine (octetRead_any _ [128, 0] 2 2 _ rfl (by omega) (Bs.lit (heap_alloc_new _ _) _ rfl 2 (by decide) (by decide))).mono ?_
  rintro e w2 ⟨q, g, rfl, hR2, hq2, -, hb2⟩
  have hb12 : Below w1.heap.size w1 w2 := ((Below.refl _ _).alloc (Nat.le_refl _) _).trans (hb2.mono (by simp))
  have hq1 : w1.heap.size ≤ q := by simp at hq2; omega
  have HR2 := Lib.hid hR2
  clear hR2 hq2 hb2
  go_wp2_with fail
  refine (Take_any 9 _ HR2.out).mono ?_
  rintro e w3 ⟨hT, hK3⟩
  rcases hT with ⟨v, k, hT, -⟩ | ⟨-, rfl, j, hR3⟩
  · rw [H2.out] at hT; cases hT
  have hb13 : Below w1.heap.size w1 w3 := hb12.trans (hK3.below hb12.size (by rintro z rfl; exact hq1))
  have HR3 := Lib.hid hR3
  clear hR3 hK3 hb12
  go_wp2_with fail
  refine (List_any _ [300] 1 1 _ rfl (by omega) (Ns.one _ 300 (by omega) _)).mono ?_
  rintro e w4 ⟨y, rfl, hoy, hb4⟩
  rw [H3.out] at hoy
  obtain ⟨ay, cy, ny, hvy, hny, hby, -, -⟩ := hoy.bsn
  subst hvy
  have hb34 : Below w3.heap.size w3 w4 := ((Below.refl _ _).alloc (Nat.le_refl _) _).trans (hb4.mono (by simp))
  have hs := run_str hny hby
  rw [H4.out] at hs
  have hb14 := hb13.trans (hb34.mono hb13.size)
  have HR4 := Lib.hid (HR3.out.below hb34)
  have hcell := HC1.out w4 hb14
  have hbw4 := hbw1.trans (hb14.mono hbw1.size)
  clear hoy hny hby hb4 hb34 hb13 hb14
  go_wp2_with fail
  refine (RSpent_any _ HR4.out).mono ?_
  rintro e w5 ⟨rfl, rfl⟩
  go_wp2
  go_ret
  exact ⟨rfl, hbw4⟩
end Go.Proofs.Ythicaomghefedaa
