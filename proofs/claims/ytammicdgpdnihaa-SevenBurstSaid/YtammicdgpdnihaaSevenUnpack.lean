/- Walk of layer 6: seven.Unpack. -/
import Derived.Test.YtammicdgpdnihaaSevenRefUnpack
namespace Go.Proofs.Ytammicdgpdnihaa
open Go.RowKit

set_option maxRecDepth 100000 in
set_option maxHeartbeats 2000000 in
theorem Unpack_any (a : Option Addr) (l : List UInt8) (n cap : Nat) (w : World) (hn : n = l.length) (hmax : n ≤ 1000000) (hb : Bs w a cap l) :
    Calls Try.prog 24 #[.slice a n cap] w fun e w' => Unpacked w.heap.size l e w' ∧ Below w.heap.size w w' := by
  have HN := Lib.hid hn
  have HB := Lib.hid hb
  clear hb hn
  cases hw : whole l
  case false =>
    have HW := Lib.hid hw
    clear hw
    go_enter Try.func24, Try.ntmps24
    go_wp2_with fail
    refine (Whole_any a l n cap _ HN.out HB.out).mono ?_; rintro e w1 ⟨rfl, rfl⟩
    rw [HW.out]
    go_wp2
    go_ret2
    refine ⟨.inr ⟨?_, rfl⟩, Below.refl _ _⟩
    unfold unpackN
    rw [if_neg]
    rw [HW.out]
    exact fun h => by cases h.1
  have HW := Lib.hid hw
  clear hw
  obtain ⟨N, hNd⟩ : ∃ N, N = n * 7 / 8 := ⟨_, rfl⟩
  have hNI : (N : Int) = (n : Int) * 7 / 8 := by rw [hNd, Int.natCast_ediv, Int.natCast_mul]; rfl
  have hN1 : 8 * N ≤ 7 * n := by omega
  have hN2 : 7 * n < 8 * N + 8 := by omega
  have HND := Lib.hid hNd
  have HNI := Lib.hid hNI
  clear hNd hNI
  by_cases hlen : (8 * N + 6) / 7 = n
  case neg =>
    have he2 : ((8 * ((n : Int) * 7 / 8) + 6) / 7 != (n : Int)) = true := by rw [bne_iff_ne, ← HNI.out]; omega
    go_enter Try.func24, Try.ntmps24
    go_wp2_with fail
    refine (Whole_any a l n cap _ HN.out HB.out).mono ?_; rintro e w1 ⟨rfl, rfl⟩
    rw [HW.out]
    go_wp2
    go_ret2
    refine ⟨.inr ⟨?_, rfl⟩, Below.refl _ _⟩
    unfold unpackN
    rw [if_neg]
    rw [← HN.out, ← HND.out]
    exact fun h => hlen h.2.1
  have he2 : ((8 * ((n : Int) * 7 / 8) + 6) / 7 != (n : Int)) = false := by rw [bne_eq_false_iff_eq, ← HNI.out]; omega
  have HLEN := Lib.hid hlen
  clear hlen
  go_enter Try.func24, Try.ntmps24
  go_wp2_with fail
  refine (Whole_any a l n cap _ HN.out HB.out).mono ?_; rintro e w1 ⟨rfl, rfl⟩
  rw [HW.out]
  go_wp2
  go_loopw [5, 6, 7, 28] (fun v r k i wr => ∃ j m R K : Nat, j ≤ n ∧ i = .int .i64 (j : Int) ∧ r = .int .u64 (R : Int) ∧ k = .int .i64 (K : Int) ∧ 8 * m + K = 7 * j ∧ K < 8 ∧ R < 128 ∧ Hid (R = val7 (l.take j) / 2 ^ (8 * m)) ∧
      OwnB w.heap.size wr v (bytesOf (val7 (l.take j)) m) ∧ Below w.heap.size w wr) (fun _ _ _ i _ => n - (intOf i).toNat)
  case atStart => exact ⟨0, 0, 0, 0, Nat.zero_le _, rfl, rfl, rfl, rfl, by omega, by omega, (Nat.zero_div _).symm, OwnB.start _ _, Below.refl _ _⟩
  case round =>
    obtain ⟨j, m, R, K, hj, rfl, rfl, rfl, hK, hK8, hR, HR, hown, hbel⟩ := hrel
    by_cases hlt : j < n
    · obtain ⟨b, off, rfl, hcell, hbs⟩ := HB.out.at (k := j) (by have h1 := HN.out; omega)
      rw [← hbel.cell (by exact hbs)] at hcell
      have hc := (l.getD j 0).toNat_lt
      generalize hcd : (l.getD j 0).toNat = c at *
      have HCD := Lib.hid hcd
      clear hcd
      have hand : bits BinOp.and IntKind.u8 (c : Int) 127 = ((c % 128 : Nat) : Int) := by
        rw [show (127 : Int) = ((127 : Nat) : Int) from rfl, u8_and_nat c 127 hc (by omega), nat_mask7]
      have hd : c % 128 < 128 := Nat.mod_lt _ (by omega)
      have hst := unpack_step l j m K R (R + (l.getD j 0).toNat % 128 * 2 ^ K) (by have h1 := HN.out; omega) hK HR.out rfl
      rw [HCD.out] at hst
      have HAND := Lib.hid hand
      clear hand
      generalize c % 128 = d at *
      have hK2 : 2 ^ K ≤ 128 := Nat.pow_le_pow_right (n := 2) (j := 7) (by omega) (by omega)
      have hdK : d * 2 ^ K ≤ 127 * 128 := Nat.mul_le_mul (by omega) hK2
      obtain ⟨S, hS⟩ : ∃ S, S = R + d * 2 ^ K := ⟨_, rfl⟩
      have HOR : Hid (bits BinOp.or IntKind.u64 (R : Int) (IntKind.u64.wrap ((d : Int) * 2 ^ K)) = (S : Int)) := by
        have e : ((d : Int) * 2 ^ K) = ((d * 2 ^ K : Nat) : Int) := by push_cast; rfl
        show _ = _
        rw [e, IntKind.wrap_u64, show ((d * 2 ^ K : Nat) : Int) % 18446744073709551616 = ((d * 2 ^ K : Nat) : Int) from by omega, u64_or_nat _ _ (by omega) (by omega), or_join R d K hst.2.1, ← hS]
      have hSb : S < 32768 := by omega
      rw [← hS] at hst
      have HST := Lib.hid hst
      clear hst hS hK2 hdK
      have hand := HAND.out
      have hor := HOR.out
      by_cases hK1 : 1 ≤ K
      · have HD : Hid (((S % 256 : Nat) : Int) = ((UInt8.ofNat (S % 256)).toNat : Int)) := by show _ = _; simp
        have HS5 := Lib.hid (HST.out.2.2.2.1)
        have HL := Lib.hid (bytesOf_length (val7 (l.take j)) m)
        generalize UInt8.ofNat (S % 256) = by1 at *
        go_wp2_with (at_builtin; refine wpList_append_u8 rfl (.tmp 43) (.tmp 46) rfl w.heap.size _ _ rfl hown _ by1 ?_ rfl ?_ ?_ ?_)
        · exact HD.out
        · rw [HL.out]; omega
        · exact hbel.size
        intro v' w2 hown2 hg
        rw [← HS5.out] at hown2
        have hbel2 := hbel.trans (hown.belowOf hg hbel.size)
        clear hg hown
        go_wp2
        go_roundw
        case rel => exact ⟨j + 1, m + 1, S / 256, K - 1, by omega, by go_num, by go_num, by go_num, by omega, by omega, by
          have h1 := HST.out.2.2.2.2.2.1 (by omega)
          have h2 : 2 ^ (7 * (j + 1) - 8 * (m + 1)) ≤ 2 ^ 7 := Nat.pow_le_pow_right (by omega) (by omega)
          omega, HST.out.2.2.2.2.1, hown2, hbel2⟩
        case measure => simp [intOf]; omega
      · obtain rfl : K = 0 := by omega
        have HS5 := Lib.hid (HST.out.2.2.1)
        have hor0 : bits BinOp.or IntKind.u64 (R : Int) (d : Int) = (S : Int) := by
          have h1 := HOR.out
          rwa [show IntKind.u64.wrap ((d : Int) * 2 ^ 0) = (d : Int) from by rw [IntKind.wrap_u64]; simp; omega] at h1
        clear hor
        go_wp2
        go_roundw
        case rel => exact ⟨j + 1, m, S, 7, by omega, by go_num, by go_num, by go_num, by omega, by omega, HST.out.2.2.2.2.2.2, HST.out.1, by rw [HS5.out]; exact hown, hbel⟩
        case measure => simp [intOf]; omega
    · obtain rfl : j = n := by omega
      obtain rfl : m = N := by omega
      rw [List.take_of_length_le (by have h1 := HN.out; omega)] at HR hown
      by_cases hz : R = 0
      · subst hz
        go_wp2
        go_ret2
        refine ⟨.inl ⟨_, _, ?_, rfl, hown⟩, hbel⟩
        unfold unpackN
        rw [if_pos, ← HN.out, ← HND.out]
        rw [← HN.out, ← HND.out]
        exact ⟨HW.out, HLEN.out, HR.out.symm⟩
      · have hne : ((R : Int) != 0) = true := by rw [bne_iff_ne]; omega
        have HZ := Lib.hid hz
        clear hz
        go_wp2
        go_ret2
        refine ⟨.inr ⟨?_, rfl⟩, hbel⟩
        unfold unpackN
        rw [if_neg]
        rw [← HN.out, ← HND.out, ← HR.out]
        exact fun h => HZ.out h.2.2
end Go.Proofs.Ytammicdgpdnihaa
