/- The walks of repertorylaw03's laws CrcBurst, CrcTails, CrcSums, CrcSteps: each returns true, and leaves what was there as it was. -/
import Derived.Test.YtammicdgpdnihaaAwake3
import Derived.Test.YtammicdgpdnihaaTurned
import Derived.Test.YtammicdgpdnihaaTable
namespace Go.Proofs.Ytammicdgpdnihaa
open Go.RowKit

set_option maxHeartbeats 400000 in
theorem CrcBurst_walk (a : Option Addr) (l : List UInt8) (n cap : Nat) (p : Int) (t : Nat) (w : World) (hn : n = l.length) (hb : Bs w a cap l) (ht : t < 4294967296) :
    Calls Try.prog 4 #[.slice a n cap, .int .i64 p, .int .u32 t] w fun e w' => e = .returned (.bool true) ∧ Below w.heap.size w w' := by
  have hl := hb.fits hn
  have HN := Lib.hid hn
  have HB := Lib.hid hb
  clear hb hn
  by_cases h1 : 1000 < n
  · go_enter Try.func4, Try.ntmps4
    go_wp2_with (go_at_call 14; refine (awake3 _).mono ?_; rintro e w1 ⟨rfl, hb1⟩)
    go_ret
    exact ⟨rfl, hb1⟩
  by_cases h2 : p < 0
  · go_enter Try.func4, Try.ntmps4
    go_wp2_with (go_at_call 14; refine (awake3 _).mono ?_; rintro e w1 ⟨rfl, hb1⟩)
    go_ret
    exact ⟨rfl, hb1⟩
  by_cases h3 : 8 * (n : Int) - 32 < p
  · go_enter Try.func4, Try.ntmps4
    go_wp2_with (go_at_call 14; refine (awake3 _).mono ?_; rintro e w1 ⟨rfl, hb1⟩)
    go_ret
    exact ⟨rfl, hb1⟩
  obtain ⟨q, rfl⟩ := Int.eq_ofNat_of_zero_le (show 0 ≤ p by omega)
  go_enter Try.func4, Try.ntmps4
  go_wp2_with fail
  refine (Turned_in a l n cap q t _ HN.out (by omega) HB.out (by omega) ht).mono ?_
  rintro e w1 ⟨v, x, rfl, hown, hlen, hval, hb1⟩
  have HX : Hid (sumN x = sumN l ↔ t = 0) := by
    have h5 := burst 4294967295 l x q t (by rw [hlen, HN.out]) ht (by rw [← HN.out]; omega) hval
    have h6 := stepN_lt 4294967295 (by omega) l
    have h7 := stepN_lt 4294967295 (by omega) x
    show _ ↔ _
    rw [← h5]; unfold sumN; omega
  obtain ⟨a', cap', hv, hbx, -, -⟩ := hown.bs
  rw [hlen] at hv
  rw [hv]
  have HLX := Lib.hid hlen
  have HBX := Lib.hid hbx
  have HBL := Lib.hid (HB.out.below hb1)
  clear hown hlen hbx hval hv
  go_wp2_with fail
  refine (CrcOf_any _ [x] _ _ _ rfl ?_).mono ?_
  · exact Bss.one x HLX.out.symm (heap_alloc_at _ _ _ (by simp)) (HBX.out.below ((Below.refl _ _).alloc (Nat.le_refl _) _))
  rintro e w2 ⟨rfl, hb2⟩
  have hb2' : Below w1.heap.size w1 w2 := ((Below.refl _ w1).alloc (Nat.le_refl _) _).trans (hb2.mono (by simp))
  have HBL2 := Lib.hid (HBL.out.below hb2')
  rw [show List.flatten [x] = x from by simp]
  go_wp2_with fail
  refine (CrcOf_any _ [l] _ _ _ rfl ?_).mono ?_
  · exact Bss.one l HN.out (heap_alloc_at _ _ _ (by simp)) (HBL2.out.below ((Below.refl _ _).alloc (Nat.le_refl _) _))
  rintro e w3 ⟨rfl, hb3⟩
  have hb3' : Below w2.heap.size w2 w3 := ((Below.refl _ w2).alloc (Nat.le_refl _) _).trans (hb3.mono (by simp))
  rw [show List.flatten [l] = l from by simp]
  have hbw : Below w.heap.size w w3 := (hb1.trans (hb2'.mono hb1.size)).trans (hb3'.mono (Nat.le_trans hb1.size hb2'.size))
  have HBW := Lib.hid hbw
  clear hb1 hb2 hb3 hb2' hb3' hbw
  by_cases hz : t = 0
  · have e1 : ((sumN x : Int) == (sumN l : Int)) = true := by rw [beq_iff_eq]; have := HX.out.2 hz; omega
    have e2 : ((t : Int) == 0) = true := by rw [beq_iff_eq]; omega
    clear hz
    go_wp2_with (go_at_call 14; refine (awake3 _).mono ?_; rintro e w4 ⟨rfl, hb4⟩)
    go_ret
    exact ⟨rfl, HBW.out.trans (hb4.mono HBW.out.size)⟩
  · have e1 : ((sumN x : Int) == (sumN l : Int)) = false := by rw [beq_eq_false_iff_ne]; intro h; exact hz (HX.out.1 (by omega))
    have e2 : ((t : Int) == 0) = false := by rw [beq_eq_false_iff_ne]; omega
    clear hz
    go_wp2_with (go_at_call 14; refine (awake3 _).mono ?_; rintro e w4 ⟨rfl, hb4⟩)
    go_ret
    exact ⟨rfl, HBW.out.trans (hb4.mono HBW.out.size)⟩

end Go.Proofs.Ytammicdgpdnihaa
