/- The walk of repertorylaw01.awake: chapter 1's examples hold. -/
import Derived.Test.YthicaomghefedaaOctetW
import Derived.Test.YthicaomghefedaaOctetR
namespace Go.Proofs.Ythicaomghefedaa
open Go.RowKit

set_option maxRecDepth 100000 in
set_option maxHeartbeats 1000000 in
theorem awake1 (w : World) : Calls Try.prog 11 #[] w fun e w' => e = .returned (.bool true) ∧ Below w.heap.size w w' := by
  have H1 : Hid (fitsN 3 515 = true) := by show _ = _; decide
  have H2 : Hid ((if fitsN 3 (515 : Nat) = true then [] ++ beN 515 (Int.toNat 3) else ([] : List UInt8)) = [0, 2, 3]) := by show _ = _; decide
  have H3 : Hid (takenN [1, 2] 0 false (askN 1) = [1] ∧ nextN [1, 2] 0 false (askN 1) = 1 ∧ hasN [1, 2] 0 false (askN 1) = true ∧ beV [1] = 1) := by show _ ∧ _; decide
  have H4 : Hid (takenN [1, 2] 1 false (askN 2) = [] ∧ nextN [1, 2] 1 false (askN 2) = 1 ∧ hasN [1, 2] 1 false (askN 2) = false ∧ beV [] = 0) := by show _ ∧ _; decide
  go_enter Try.func11, Try.ntmps11
  go_wp2_with fail
  refine (octetWrite_any _).mono ?_
  rintro e w1 ⟨p, rfl, hW1, hb1⟩
  have HW1 := Lib.hid hW1
  clear hW1
  go_wp2_with fail
  refine (WNum_any _ p _ [] 3 515 _ HW1.out (by simp) (by omega) (by omega) (by omega)).mono ?_
  rintro e w2 ⟨rfl, x2, hW2, hK2, hN2⟩
  rw [H2.out] at hW2
  rw [H1.out]
  have HW2 := Lib.hid hW2
  have hb2 : Below w.heap.size w w2 := hb1.trans (hK2.below hb1.size HW1.out.foot)
  clear hW2 hK2 hN2
  go_wp2_with fail
  refine (octetRead_any _ [1, 2] 2 2 _ rfl (by omega) (Bs.lit (heap_alloc_new _ _) _ rfl 2 (by decide) (by decide))).mono ?_
  rintro e w3 ⟨p2, g2, rfl, hR3, hp2, hg2, hb3⟩
  have hb23 : Below w2.heap.size w2 w3 := ((Below.refl _ _).alloc (Nat.le_refl _) _).trans (hb3.mono (by simp))
  have hp2' : w2.heap.size ≤ p2 := by simp at hp2; omega
  have HW3 := Lib.hid (HW2.out.below hb23)
  have hps : p < w2.heap.size := HW2.out.lt
  have hxs : ∀ k, x2.ownBlock = some k → k < w2.heap.size := fun k hk => (HW2.out.own.lt k hk).2
  have HR3 := Lib.hid hR3
  have hbw3 := hb2.trans (hb23.mono hb2.size)
  clear hR3 hb3 hp2 hg2 hb1 hb2
  go_wp2_with fail
  refine (RNum_any 1 _ HR3.out (by omega) (by omega)).mono ?_
  rintro e w4 ⟨rfl, hR4, hK4⟩
  rw [H3.out.2.1, H3.out.2.2.1] at hR4
  rw [H3.out.1, H3.out.2.2.2]
  have HR4 : Hid (Rd w4 p2 g2 [1, 2] 1 false) := hR4
  clear hR4
  go_wp2_with fail
  refine (RNum_any 2 _ HR4.out (by omega) (by omega)).mono ?_
  rintro e w5 ⟨rfl, hR5, hK5⟩
  rw [H4.out.2.1, H4.out.2.2.1] at hR5
  rw [H4.out.1, H4.out.2.2.2]
  have HR5 : Hid (Rd w5 p2 g2 [1, 2] 1 true) := hR5
  have hK45 := hK4.trans hK5 fun i hi => .inl hi
  have HW5 := Lib.hid (HW3.out.kept hK45 (by omega) (fun k hk h => by have := hxs k hk; omega))
  have hbw5 : Below w.heap.size w w5 := hbw3.trans (hK45.below hbw3.size (fun i hi => by subst hi; have := HW1.out.lt; have := HW1.out.ge; omega))
  clear hR5 hK4 hK5 hK45
  go_wp2_with fail
  refine (WBytes_any _ p x2 [0, 2, 3] _ HW5.out (by simp)).mono ?_
  rintro e w6 ⟨v6, rfl, hown6, hb6⟩
  obtain ⟨a6, c6, n6, hv6, hn6, hbs6, -, -⟩ := hown6.bsn
  rw [hv6]
  have hs6 := run_str hn6 hbs6
  have HS := Lib.hid (strB_toList [0, 2, 3])
  have HW6 := Lib.hid (HW5.out.below hb6)
  have HR6 := Lib.hid (HR5.out.below hb6)
  have hbw6 := hbw5.trans (hb6.mono hbw5.size)
  clear hv6 hn6 hbs6 hown6 hb6
  generalize strB [0, 2, 3] = S at *
  have hS := HS.out
  go_wp2_with fail
  refine (WLen_any _ p x2 [0, 2, 3] _ HW6.out).mono ?_
  rintro e w7 ⟨rfl, rfl⟩
  go_wp2_with fail
  refine (RSpent_any _ HR6.out).mono ?_
  rintro e w7 ⟨rfl, rfl⟩
  go_wp2
  go_ret
  exact ⟨rfl, hbw6⟩
end Go.Proofs.Ythicaomghefedaa
