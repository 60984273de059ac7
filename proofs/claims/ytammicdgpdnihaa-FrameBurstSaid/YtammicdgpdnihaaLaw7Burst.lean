/- The walk of the law FrameBurst: it returns true, and leaves what was there as it was. -/
import Derived.Test.YtammicdgpdnihaaLaw7Awake
import Derived.Test.YtammicdgpdnihaaTurned
namespace Go.Proofs.Ytammicdgpdnihaa
open Go.RowKit

set_option maxRecDepth 100000 in
set_option maxHeartbeats 4000000 in
theorem FrameBurst_walk (kind : UInt8) (a : Option Addr) (l : List UInt8) (n cap : Nat) (p : Int) (t : Nat) (w : World) (hn : n = l.length) (hb : Bs w a cap l) (hp : -9223372036854775808 ≤ p ∧ p ≤ 9223372036854775807) (ht : t < 4294967296) :
    Calls Try.prog 11 #[.int .u8 (kind.toNat : Int), .slice a n cap, .int .i64 p, .int .u32 (t : Int)] w fun e w' => e = .returned (.bool true) ∧ Below w.heap.size w w' := by
  have hf := hb.fits hn
  have HN := Lib.hid hn
  have HB := Lib.hid hb
  obtain ⟨hp1, hp2⟩ := hp
  have hkl := kind.toNat_lt
  obtain ⟨kd, hkd⟩ : ∃ d, d = kind.toNat := ⟨_, rfl⟩
  have HKD := Lib.hid hkd
  rw [← hkd] at hkl ⊢
  clear hn hb hkd
  by_cases h1 : 300 < n
  · go_enter Try.func11, Try.ntmps11
    go_wp2_with (go_at_call 31; refine (awake7 _).mono ?_; rintro e w1 ⟨rfl, hb1⟩)
    go_ret
    exact ⟨rfl, hb1⟩
  by_cases h2 : t = 0
  · subst h2
    go_enter Try.func11, Try.ntmps11
    go_wp2_with (go_at_call 31; refine (awake7 _).mono ?_; rintro e w1 ⟨rfl, hb1⟩)
    go_ret
    exact ⟨rfl, hb1⟩
  have ht0 : ((t : Int) == 0) = false := by rw [beq_eq_false_iff_ne]; omega
  have HLN : Hid (6 ≤ (sealF kind l).length ∧ (sealF kind l).length ≤ 10000) := by
    show _ ∧ _
    have h8 := HN.out; have h9 := formV_le (v := l.length) (by omega); have h10 := formV_pos l.length
    rw [sealF_len]; omega
  go_enter Try.func11, Try.ntmps11
  go_wp2_with fail
  rw [HKD.out]
  refine (Seal_any kind a l n cap _ HN.out (by omega) HB.out).mono ?_
  rintro e w1 ⟨x, rfl, hox, hb1⟩
  rw [← HKD.out]
  obtain ⟨ax, cx, nx, hvx, hnx, hbx, -, -⟩ := hox.bsn
  subst hvx
  have HNX := Lib.hid hnx
  have HBX := Lib.hid hbx
  have hnx1 : 6 ≤ nx := by rw [hnx]; exact HLN.out.1
  have hnx2 : nx ≤ 10000 := by rw [hnx]; exact HLN.out.2
  clear hox hnx hbx
  by_cases h3 : p < 0
  · go_wp2_with (go_at_call 31; refine (awake7 _).mono ?_; rintro e w2 ⟨rfl, hb2⟩)
    go_ret
    exact ⟨rfl, hb1.trans (hb2.mono hb1.size)⟩
  obtain ⟨q, rfl⟩ := Int.eq_ofNat_of_zero_le (show 0 ≤ p by omega)
  by_cases h4 : 8 * (nx : Int) - 32 < (q : Int)
  · go_wp2_with (go_at_call 31; refine (awake7 _).mono ?_; rintro e w2 ⟨rfl, hb2⟩)
    go_ret
    exact ⟨rfl, hb1.trans (hb2.mono hb1.size)⟩
  go_wp2_with fail
  refine (Turned_in ax (sealF kind l) nx cx q t _ HNX.out (by omega) HBX.out (by omega) ht).mono ?_
  rintro e w2 ⟨v, m, rfl, hom, hlm, hvm, hb2⟩
  have hbw2 := hb1.trans (hb2.mono hb1.size)
  have HBAD : Hid ((openF m).2.2 ≠ 0) := openF_burst (by rw [hlm]; exact HNX.out) ht h2 (by rw [← HNX.out]; omega) hvm
  have HO := Lib.hid (openF_bad HBAD.out)
  obtain ⟨am, cm, nm, hvm2, hnm, hbm, -, -⟩ := hom.bsn
  subst hvm2
  have hnm2 : nm = nx := by rw [hnm, hlm]
  subst hnm2
  have HNM := Lib.hid hnm
  have HBM := Lib.hid hbm
  clear hom hlm hvm hnm hbm hb2
  go_wp2_with fail
  refine (Open_any am m nm cm _ HNM.out (by omega) HBM.out).mono ?_
  rintro e w3 ⟨⟨z, rfl, hoz⟩, hb3⟩
  obtain ⟨y, hy⟩ : ∃ y, y = (openF m).2.2 := ⟨_, rfl⟩
  rw [← hy] at HBAD HO
  rw [HO.out] at hoz ⊢
  obtain ⟨az, cz, nz, hvz, hnz, -, -, -⟩ := hoz.bsn
  subst hvz
  have hnz0 : nz = 0 := hnz
  subst hnz0
  have hbw3 := hbw2.trans (hb3.mono hbw2.size)
  have hy2 : ((y : Int) != 0) = true := by rw [bne_iff_ne]; have := HBAD.out; omega
  have hy3 : ((y : Int) == 0) = false := by rw [beq_eq_false_iff_ne]; have := HBAD.out; omega
  clear hoz hnz hy hb3
  dsimp only
  go_wp2_with (go_at_call 31; refine (awake7 _).mono ?_; rintro e w4 ⟨rfl, hb4⟩)
  go_ret
  exact ⟨rfl, hbw3.trans (hb4.mono hbw3.size)⟩
end Go.Proofs.Ytammicdgpdnihaa
