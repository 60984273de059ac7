/- The walk of the law CrcTails: it returns true, and leaves what was there as it was. -/
import Derived.Test.YtammicdgpdnihaaAwake3
namespace Go.Proofs.Ytammicdgpdnihaa
open Go.RowKit

theorem le4_lit (t : Nat) (ht : t < 4294967296) : (#[Value.int .u8 ((t : Int) % 256), Value.int .u8 ((t : Int) / 256 % 256), Value.int .u8 ((t : Int) / 65536 % 256), Value.int .u8 ((t : Int) / 16777216)] : Array Value).toList = (le4 t).map u8v := by
  simp [le4, u8v]; omega

set_option maxHeartbeats 400000 in
theorem CrcTails_walk (a : Option Addr) (l : List UInt8) (n cap : Nat) (t : Nat) (w : World) (hn : n = l.length) (hb : Bs w a cap l) (ht : t < 4294967296) :
    Calls Try.prog 5 #[.slice a n cap, .int .u32 t] w fun e w' => e = .returned (.bool true) ∧ Below w.heap.size w w' := by
  have hl := hb.fits hn
  have HN := Lib.hid hn
  have HB := Lib.hid hb
  clear hb hn
  by_cases h1 : 500 < n
  · go_enter Try.func5, Try.ntmps5
    go_wp2_with (go_at_call 14; refine (awake3 _).mono ?_; rintro e w1 ⟨rfl, hb1⟩)
    go_ret
    exact ⟨rfl, hb1⟩
  go_enter Try.func5, Try.ntmps5
  go_wp2_with fail
  refine (CrcOf_any _ [l] _ _ _ rfl ?_).mono ?_
  · exact Bss.one l HN.out (heap_alloc_at _ _ _ (by simp)) (HB.out.below ((Below.refl _ _).alloc (Nat.le_refl _) _))
  rintro e w1 ⟨rfl, hb1⟩
  have hb1' : Below w.heap.size w w1 := ((Below.refl _ w).alloc (Nat.le_refl _) _).trans (hb1.mono (by simp))
  have HB1 := Lib.hid (HB.out.below hb1')
  rw [show List.flatten [l] = l from by simp]
  have hs := sumN_lt l
  have HS1 := Lib.hid ((tail_iff l (sumN l) hs).2 rfl)
  have HS2 := Lib.hid (tail_iff l t ht)
  generalize hsd : sumN l = s at *
  have HSD := Lib.hid hsd
  clear hsd hb1
  go_wp2_with fail
  refine (CrcOf_any _ [l, le4 s] _ _ _ rfl ?_).mono ?_
  · refine Bss.two l (le4 s) HN.out rfl (heap_alloc_at _ _ _ (by simp)) (HB1.out.below ((((Below.refl _ _).alloc (Nat.le_refl _) _).alloc (by simp) _).alloc (by simp; omega) _)) ?_
    exact Bs.lit (Eq.trans (Below.heap_alloc _ _ _ (by simp)) (heap_alloc_at _ _ _ (by simp))) (le4 s) (le4_lit s hs) 4 (Nat.le_refl _) (by omega)
  rintro e w2 ⟨rfl, hb2⟩
  have hb2' : Below w1.heap.size w1 w2 := ((((Below.refl _ _).alloc (Nat.le_refl _) _).alloc (by simp) _).alloc (by simp; omega) _).trans (hb2.mono (by simp; omega))
  have HB2 := Lib.hid (HB1.out.below hb2')
  have HX : Hid (w2.heap[w1.heap.size]? = some (.cells #[Value.int .u8 ((t : Int) % 256), Value.int .u8 ((t : Int) / 256 % 256), Value.int .u8 ((t : Int) / 65536 % 256), Value.int .u8 ((t : Int) / 16777216)] 5 (0, 0))) := by
    refine Eq.trans (hb2.block _ (by simp; omega)) ?_
    refine Eq.trans (Below.heap_alloc _ _ _ (by simp <;> omega)) ?_
    exact Eq.trans (Below.heap_alloc _ _ _ (by simp)) (heap_alloc_at _ _ _ rfl)
  rw [show List.flatten [l, le4 s] = l ++ le4 s from by simp, show sumN (l ++ le4 s) = 558161692 from HS1.out]
  go_wp2_with fail
  refine (CrcOf_any _ [l, le4 t] _ _ _ rfl ?_).mono ?_
  · refine Bss.two l (le4 t) HN.out rfl (heap_alloc_at _ _ _ (by simp)) (HB2.out.below ((Below.refl _ _).alloc (Nat.le_refl _) _)) ?_
    exact Bs.lit (Eq.trans (Below.heap_alloc _ _ _ (Nat.lt_of_lt_of_le (by simp <;> omega) hb2.size)) HX.out) (le4 t) (le4_lit t ht) 4 (Nat.le_refl _) (by omega)
  rintro e w3 ⟨rfl, hb3⟩
  have hb3' : Below w2.heap.size w2 w3 := ((Below.refl _ _).alloc (Nat.le_refl _) _).trans (hb3.mono (by simp))
  have HBW := Lib.hid ((hb1'.trans (hb2'.mono hb1'.size)).trans (hb3'.mono (Nat.le_trans hb1'.size hb2'.size)))
  rw [show List.flatten [l, le4 t] = l ++ le4 t from by simp]
  clear hb1' hb2 hb2' hb3 hb3'
  by_cases hz : t = s
  · have e1 : ((sumN (l ++ le4 t) : Int) == 558161692) = true := by rw [beq_iff_eq]; have := HS2.out.2 (by rw [hz]); omega
    have e2 : ((t : Int) == (s : Int)) = true := by rw [beq_iff_eq]; omega
    clear hz
    generalize sumN (l ++ le4 t) = q at *
    go_wp2_with (go_at_call 14; refine (awake3 _).mono ?_; rintro e w4 ⟨rfl, hb4⟩)
    go_ret
    exact ⟨rfl, HBW.out.trans (hb4.mono HBW.out.size)⟩
  · have e1 : ((sumN (l ++ le4 t) : Int) == 558161692) = false := by rw [beq_eq_false_iff_ne]; intro h; exact hz (HS2.out.1 (by omega))
    have e2 : ((t : Int) == (s : Int)) = false := by rw [beq_eq_false_iff_ne]; omega
    clear hz
    generalize sumN (l ++ le4 t) = q at *
    go_wp2_with (go_at_call 14; refine (awake3 _).mono ?_; rintro e w4 ⟨rfl, hb4⟩)
    go_ret
    exact ⟨rfl, HBW.out.trans (hb4.mono HBW.out.size)⟩

end Go.Proofs.Ytammicdgpdnihaa
