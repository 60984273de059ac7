/- The walk of the law SevenBurst: it returns true, and leaves what was there as it was. -/
import Derived.Test.YtammicdgpdnihaaSevenAwake
import Derived.Test.YtammicdgpdnihaaSevenBurstMath
import Derived.Test.YtammicdgpdnihaaTurned
namespace Go.Proofs.Ytammicdgpdnihaa
open Go.RowKit

theorem burst_cell (u v k m : Nat) (hm : k < m) (V W : Nat) (hu : u = ((bitsN V m).getD k 0).toNat) (hv : v = ((bitsN W m).getD k 0).toNat) : u < 256 ∧ v < 256 := by
  have h1 := bitsN_getD V m k hm
  have h2 := bitsN_getD W m k hm
  omega

set_option maxRecDepth 100000 in
set_option maxHeartbeats 4000000 in
theorem SevenBurst_walk (a : Option Addr) (l : List UInt8) (n cap : Nat) (p : Int) (t : Nat) (w : World) (hn : n = l.length) (hb : Bs w a cap l) (hp : -9223372036854775808 ≤ p ∧ p ≤ 9223372036854775807) (ht : t < 4294967296) :
    Calls Try.prog 8 #[.slice a n cap, .int .i64 p, .int .u32 t] w fun e w' => e = .returned (.bool true) ∧ Below w.heap.size w w' := by
  have hl := hb.fits hn
  have HN := Lib.hid hn
  have HB := Lib.hid hb
  obtain ⟨hp1, hp2⟩ := hp
  clear hb hn
  by_cases h1 : 300 < n
  · go_enter Try.func8, Try.ntmps8
    go_wp2_with (go_at_call 23; refine (awake6 _).mono ?_; rintro e w1 ⟨rfl, hb1⟩)
    go_ret
    exact ⟨rfl, hb1⟩
  by_cases h0 : t = 0
  · subst h0
    go_enter Try.func8, Try.ntmps8
    go_wp2_with (go_at_call 23; refine (awake6 _).mono ?_; rintro e w1 ⟨rfl, hb1⟩)
    go_ret
    exact ⟨rfl, hb1⟩
  have e0 : ((t : Int) == 0) = false := by rw [beq_eq_false_iff_ne]; omega
  have H0 := Lib.hid h0
  clear h0
  have HL1 : Hid ([l].flatten.length ≤ 1000000) := by show _ ≤ _; simp; rw [← HN.out]; omega
  have HP1 : Hid (packN [l].flatten = packN l) := by show _ = _; simp
  go_enter Try.func8, Try.ntmps8
  go_wp2_with fail
  refine (Pack_any _ [l] 1 1 _ rfl HL1.out ?_).mono ?_
  · exact Bss.one l HN.out (heap_alloc_at _ _ _ (by simp)) (HB.out.below ((Below.refl _ _).alloc (Nat.le_refl _) _))
  rintro e w1 ⟨v1, rfl, hown1, hb1⟩
  rw [HP1.out] at hown1
  obtain ⟨a1, c1, m, hv1, hm, hbs1, -, -⟩ := hown1.bsn
  rw [hv1]
  have hbw1 : Below w.heap.size w w1 := ((Below.refl _ _).alloc (Nat.le_refl _) _).trans (hb1.mono (by simp))
  have HM := Lib.hid hm
  have HLEN : Hid (m = (8 * n + 6) / 7) := by show _ = _; rw [hm, packN_length, HN.out]
  have HMAX : m ≤ 1000 := by have h2 := HLEN.out; omega
  have HP := Lib.hid hbs1
  have HB1 := Lib.hid (HB.out.below hbw1)
  clear hv1 hm hbs1 hown1 hb1
  by_cases h2 : p < 0
  · go_wp2_with (go_at_call 23; refine (awake6 _).mono ?_; rintro e w2 ⟨rfl, hb2⟩)
    go_ret
    exact ⟨rfl, hbw1.trans (hb2.mono hbw1.size)⟩
  by_cases h3 : 8 * (m : Int) - 32 < p
  · go_wp2_with (go_at_call 23; refine (awake6 _).mono ?_; rintro e w2 ⟨rfl, hb2⟩)
    go_ret
    exact ⟨rfl, hbw1.trans (hb2.mono hbw1.size)⟩
  obtain ⟨q, rfl⟩ := Int.eq_ofNat_of_zero_le (show 0 ≤ p by omega)
  go_wp2_with fail
  refine (Turned_in a1 (packN l) m c1 q t _ HM.out (by omega) HP.out (by omega) ht).mono ?_
  rintro e w2 ⟨v2, y, rfl, hown2, hlen, hval, hb2⟩
  obtain ⟨a2, c2, m2, hv2, hm2, hbs2, -, -⟩ := hown2.bsn
  rw [hv2]
  have hmm : m2 = m := by rw [hm2, hlen]
  subst hmm
  have HM2 := Lib.hid hm2
  have HY := Lib.hid hbs2
  have hbw2 := hbw1.trans (hb2.mono hbw1.size)
  have HB2 := Lib.hid (HB1.out.below hb2)
  have HVAL := Lib.hid hval
  have HLY : Hid (y.length = (packN l).length) := by show _ = _; rw [hlen, HM.out]
  clear hv2 hm2 hbs2 hown2 hb2 hbw1 hlen hval
  go_wp2_with fail
  refine (Unpack_any a2 y m2 c2 _ HM2.out (by omega) HY.out).mono ?_
  rintro e w3 ⟨hun, hb3⟩
  have hbw3 := hbw2.trans (hb3.mono hbw2.size)
  have HB3 := Lib.hid (HB2.out.below hb3)
  clear hb3 hbw2
  rcases hun with ⟨x, v3, hx, rfl, hown3⟩ | ⟨-, rfl⟩
  case inr =>
    go_wp2_with (go_at_call 23; refine (awake6 _).mono ?_; rintro e w4 ⟨rfl, hb4⟩)
    go_ret
    exact ⟨rfl, hbw3.trans (hb4.mono hbw3.size)⟩
  obtain ⟨hxl, hex, hfar⟩ := burst7 l x y q t HLY.out HVAL.out ht H0.out hx
  obtain ⟨a3, c3, n3, hv3, hn3, hbs3, -, -⟩ := hown3.bsn
  rw [hv3]
  have hnn : n3 = n := by rw [hn3, hxl, HN.out]
  subst hnn
  have HN3 := Lib.hid hn3
  have HX := Lib.hid hbs3
  rw [← HN.out] at hex hfar
  have HEX := Lib.hid hex
  have HFAR := Lib.hid hfar
  clear hv3 hn3 hbs3 hown3 hxl hex hfar hx
  obtain ⟨D, HD⟩ : ∃ D : Nat → Prop, Hid (∀ j, D j ↔ ((bitsN (valN x) (8 * n3)).getD j 0).toNat ≠ ((bitsN (valN l) (8 * n3)).getD j 0).toNat) := ⟨_, fun j => Iff.rfl⟩
  have HEXD : Hid (∃ i, i < 8 * n3 ∧ D i) := by obtain ⟨i, hi, hd⟩ := HEX.out; exact ⟨i, hi, (HD.out i).2 hd⟩
  have HFARD : Hid (∀ i j, i ≤ j → j < 8 * n3 → D i → D j → j < i + 32) := fun i j h h' hi hj => HFAR.out i j h h' ((HD.out i).1 hi) ((HD.out j).1 hj)
  clear HEX HFAR
  go_wp2_with fail
  refine (Bits_any a3 x n3 c3 _ HN3.out (by omega) HX.out).mono ?_
  rintro e w4 ⟨v4, rfl, hown4, hb4⟩
  have hbw4 := hbw3.trans (hb4.mono hbw3.size)
  have HB4 := Lib.hid (HB3.out.below hb4)
  have HO4 := Lib.hid hown4
  clear hown4 hb4 hbw3
  go_wp2_with fail
  refine (Bits_any a l n3 cap _ HN.out (by omega) HB4.out).mono ?_
  rintro e w5 ⟨v5, rfl, hown5, hb5⟩
  have hbw5 := hbw4.trans (hb5.mono hbw4.size)
  obtain ⟨au, cu, nu, hvu, hnu, hbu, -, -⟩ := (HO4.out.below hb5).bsn
  obtain ⟨av, cv, nv, hvv, hnv, hbv, -, -⟩ := hown5.bsn
  rw [hvu, hvv]
  rw [bitsN_length] at hnu hnv
  have HU := Lib.hid hbu
  have HV := Lib.hid hbv
  have HNU := Lib.hid hnu
  have HNV := Lib.hid hnv
  have hnum : nu ≤ 4000 := by omega
  clear hvu hvv hnu hnv hbu hbv hown5 hb5 HO4 hbw4
  go_wp2
  go_loopw [12, 13, 14] (fun f la i wr => ∃ k : Nat, k ≤ nu ∧ i = .int .i64 (k : Int) ∧ Below w5.heap.size w5 wr ∧ ((f = .int .i64 (-1) ∧ la = .int .i64 (-1) ∧ Hid (∀ j, j < k → ¬ D j)) ∨ (∃ p q : Nat, f = .int .i64 (p : Int) ∧ la = .int .i64 (q : Int) ∧ p ≤ q ∧ q < k ∧ Hid (D p ∧ D q)))) (fun _ _ i _ => nu - (intOf i).toNat)
  case atStart => exact ⟨0, Nat.zero_le _, rfl, Below.refl _ _, .inl ⟨rfl, rfl, fun j hj => by omega⟩⟩
  case round =>
    have hnv' : nv = nu := by rw [HNU.out, HNV.out]
    subst hnv'
    obtain ⟨k, hk, rfl, hbr, hst⟩ := hrel
    by_cases hlt : k < nv
    · obtain ⟨b1, o1, rfl, hc1, hs1⟩ := (HU.out.below hbr).at (k := k) (by rw [bitsN_length, ← HNU.out]; exact hlt)
      obtain ⟨b2, o2, rfl, hc2, hs2⟩ := (HV.out.below hbr).at (k := k) (by rw [bitsN_length, ← HNU.out]; exact hlt)
      have HDk := Lib.hid (HD.out k)
      obtain ⟨du, hdu⟩ : ∃ d, d = ((bitsN (valN x) (8 * n3)).getD k 0).toNat := ⟨_, rfl⟩
      obtain ⟨dv, hdv⟩ : ∃ d, d = ((bitsN (valN l) (8 * n3)).getD k 0).toNat := ⟨_, rfl⟩
      rw [← hdu] at hc1 HDk
      rw [← hdv] at hc2 HDk
      obtain ⟨hsm1, hsm2⟩ := burst_cell du dv k (8 * n3) (by rw [← HNU.out]; exact hlt) _ _ hdu hdv
      clear hdu hdv
      rcases hst with ⟨rfl, rfl, HS⟩ | ⟨p, q', rfl, rfl, hpq, hqk, HS⟩
      · by_cases hne : du = dv
        · subst hne
          have HS' : Hid (∀ j, j < k + 1 → ¬ D j) := fun j hj => by
            rcases Nat.lt_succ_iff_lt_or_eq.1 hj with hj | rfl
            · exact HS.out j hj
            · rw [HDk.out]; exact fun h => h rfl
          go_wp2
          go_region
          go_wp2
          go_roundw
          case rel => exact ⟨k + 1, by omega, by go_num, hbr.drew, .inl ⟨rfl, rfl, HS'⟩⟩
          case measure => simp [intOf]; omega
        · have e1 : ((du : Int) != (dv : Int)) = true := by rw [bne_iff_ne]; omega
          have HS' : Hid (D k ∧ D k) := ⟨HDk.out.2 hne, HDk.out.2 hne⟩
          clear hne
          go_wp2
          go_region
          go_wp2
          go_roundw
          case rel => exact ⟨k + 1, by omega, by go_num, hbr.drew, .inr ⟨k, k, rfl, rfl, Nat.le_refl _, by omega, HS'⟩⟩
          case measure => simp [intOf]; omega
      · by_cases hne : du = dv
        · subst hne
          go_wp2
          go_region
          go_wp2
          go_roundw
          case rel => exact ⟨k + 1, by omega, by go_num, hbr.drew, .inr ⟨p, q', rfl, rfl, hpq, by omega, HS⟩⟩
          case measure => simp [intOf]; omega
        · have e1 : ((du : Int) != (dv : Int)) = true := by rw [bne_iff_ne]; omega
          have HS' : Hid (D p ∧ D k) := ⟨HS.out.1, HDk.out.2 hne⟩
          clear hne
          go_wp2
          go_region
          go_wp2
          go_roundw
          case rel => exact ⟨k + 1, by omega, by go_num, hbr.drew, .inr ⟨p, k, rfl, rfl, by omega, by omega, HS'⟩⟩
          case measure => simp [intOf]; omega
    · obtain rfl : k = nv := by omega
      rcases hst with ⟨rfl, rfl, HS⟩ | ⟨p, q', rfl, rfl, hpq, hqk, HS⟩
      · obtain ⟨i, hi, hd⟩ := HEXD.out
        exact absurd hd (HS.out i (by rw [HNU.out]; exact hi))
      · have hf := HFARD.out p q' hpq (by rw [← HNU.out]; exact hqk) HS.out.1 HS.out.2
        go_wp2_with (go_at_call 23; refine (awake6 _).mono ?_; rintro e w6 ⟨rfl, hb6⟩)
        go_ret
        exact ⟨rfl, hbw5.trans ((hbr.trans (hb6.mono hbr.size)).mono hbw5.size)⟩
end Go.Proofs.Ytammicdgpdnihaa
