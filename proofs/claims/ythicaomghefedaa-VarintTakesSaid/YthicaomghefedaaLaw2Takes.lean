/- The walks of the laws VarintTakes and VarintRises: they return true, and leave what was there as it was. -/
import Derived.Test.YthicaomghefedaaLaw2Awake
namespace Go.Proofs.Ythicaomghefedaa
open Go.RowKit

set_option maxRecDepth 100000 in
set_option maxHeartbeats 4000000 in
theorem VarintTakes_walk (a : Option Addr) (L : List UInt8) (n cap : Nat) (most : Nat) (w : World) (hn : n = L.length) (hb : Bs w a cap L) :
    Calls Try.prog 6 #[.slice a n cap, .int .u64 most] w fun e w' => e = .returned (.bool true) ∧ Below w.heap.size w w' := by
  have hf := hb.fits hn
  have HN := Lib.hid hn
  have HB := Lib.hid hb
  clear hn hb
  by_cases h1 : 100 < n
  · go_enter Try.func6, Try.ntmps6
    go_wp2_with (go_at_call 25; refine (awake2 _).mono ?_; rintro e w1 ⟨rfl, hb1⟩)
    go_ret
    exact ⟨rfl, hb1⟩
  go_enter Try.func6, Try.ntmps6
  go_wp2_with fail
  refine (octetRead_any a L n cap _ HN.out (by omega) HB.out).mono ?_
  rintro e w1 ⟨q, g, rfl, hR1, hqw, -, hb1⟩
  have HR1 := Lib.hid hR1
  clear hR1
  go_wp2_with fail
  refine (Take_any most _ HR1.out).mono ?_
  rintro e w2 ⟨hT, hK2⟩
  have hb2 : Below w.heap.size w w2 := hb1.trans (hK2.below hb1.size (by rintro z rfl; exact hqw))
  have HB2 := Lib.hid (HB.out.below hb2)
  clear hK2 hb1
  cases hF : frontV L with
  | none =>
    have HD : Hid (frontD L = (0, 0)) := frontD_none hF
    rcases hT with ⟨v, k, hT, -⟩ | ⟨-, rfl, j, hR2⟩
    · rw [takeR_none (i := 0) hF] at hT; cases hT
    have HR2 := Lib.hid hR2
    clear hR2 hF
    go_wp2_with fail
    refine (Front_any a L n cap _ HN.out HB2.out).mono ?_
    rintro e w3 ⟨rfl, rfl⟩
    rw [HD.out]
    go_wp2_with fail
    refine (RSpent_any _ HR2.out).mono ?_
    rintro e w3 ⟨rfl, rfl⟩
    go_wp2_with (go_at_call 25; refine (awake2 _).mono ?_; rintro e w4 ⟨rfl, hb4⟩)
    go_ret
    exact ⟨rfl, hb2.trans (hb4.mono hb2.size)⟩
  | some x =>
    obtain ⟨v0, k0⟩ := x
    have HD : Hid (frontD L = (v0, k0)) := frontD_some hF
    have hbd := frontV_bound hF
    by_cases hv : v0 ≤ most
    · rcases hT with ⟨v, k, hT, rfl, hR2⟩ | ⟨hT, -⟩
      · rw [takeR_some (i := 0) hF hv] at hT
        simp only [Option.some.injEq, Prod.mk.injEq] at hT
        obtain ⟨rfl, rfl⟩ := hT
        have HR2 := Lib.hid hR2
        have hk0 : k0 ≤ n := by have := HN.out; omega
        obtain ⟨hv1, hk1, hk2, -⟩ := hbd
        have hkz : ((k0 : Int) == 0) = false := by rw [beq_eq_false_iff_ne]; omega
        have HLE : Hid (leftN L (0 + k0) false = n - k0) := by show _ = _; unfold leftN; rw [if_neg (by simp), HN.out]; omega
        obtain ⟨m, hm⟩ : ∃ m, m = n - k0 := ⟨_, rfl⟩
        have hme : (n : Int) - (k0 : Int) = (m : Int) := by omega
        rw [← hm] at HLE
        clear hR2 hF hm
        go_wp2_with fail
        refine (Front_any a L n cap _ HN.out HB2.out).mono ?_
        rintro e w3 ⟨rfl, rfl⟩
        rw [HD.out]
        go_wp2_with fail
        refine (RSpent_any _ HR2.out).mono ?_
        rintro e w3 ⟨rfl, rfl⟩
        go_wp2_with fail
        refine (RLeft_any _ HR2.out).mono ?_
        rintro e w3 ⟨rfl, hb3⟩
        rw [HLE.out]
        go_wp2_with (go_at_call 25; refine (awake2 _).mono ?_; rintro e w4 ⟨rfl, hb4⟩)
        go_ret
        exact ⟨rfl, (hb2.trans (hb3.mono hb2.size)).trans (hb4.mono (Nat.le_trans hb2.size hb3.size))⟩
      · rw [takeR_some (i := 0) hF hv] at hT; cases hT
    · rcases hT with ⟨v, k, hT, -⟩ | ⟨-, rfl, j, hR2⟩
      · rw [takeR_more (i := 0) hF (by omega)] at hT; cases hT
      have HR2 := Lib.hid hR2
      obtain ⟨hv1, hk1, hk2, -⟩ := hbd
      have hkz : ((k0 : Int) == 0) = false := by rw [beq_eq_false_iff_ne]; omega
      clear hR2 hF
      go_wp2_with fail
      refine (Front_any a L n cap _ HN.out HB2.out).mono ?_
      rintro e w3 ⟨rfl, rfl⟩
      rw [HD.out]
      go_wp2_with fail
      refine (RSpent_any _ HR2.out).mono ?_
      rintro e w3 ⟨rfl, rfl⟩
      go_wp2_with (go_at_call 25; refine (awake2 _).mono ?_; rintro e w4 ⟨rfl, hb4⟩)
      go_ret
      exact ⟨rfl, hb2.trans (hb4.mono hb2.size)⟩
end Go.Proofs.Ythicaomghefedaa
