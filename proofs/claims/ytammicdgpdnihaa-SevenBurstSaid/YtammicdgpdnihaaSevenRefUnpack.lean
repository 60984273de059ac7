/- Walk of layer 6: the reference's Unpack. -/
import Derived.Test.YtammicdgpdnihaaSevenBits
namespace Go.Proofs.Ytammicdgpdnihaa
open Go.RowKit

/-- What Unpack gives back: the bytes and true, or nil and false. -/
def Unpacked (B : Nat) (l : List UInt8) (e : Ending) (w' : World) : Prop :=
  (∃ x v, unpackN l = some x ∧ e = .returned (.tuple #[v, .bool true]) ∧ OwnB B w' v x) ∨ (unpackN l = none ∧ e = .returned (.tuple #[.slice none 0 0, .bool false]))

set_option maxRecDepth 100000 in
set_option maxHeartbeats 2000000 in
theorem refUnpack_any (a : Option Addr) (l : List UInt8) (n cap : Nat) (w : World) (hn : n = l.length) (hmax : n ≤ 1000000) (hb : Bs w a cap l) :
    Calls Try.prog 25 #[.slice a n cap] w fun e w' => Unpacked w.heap.size l e w' ∧ Below w.heap.size w w' := by
  have HN := Lib.hid hn
  have HB := Lib.hid hb
  have HW : Hid (val7 l < 2 ^ (7 * n)) := by rw [hn]; exact val7_lt l
  clear hb hn
  by_cases hlen : (8 * (n * 7 / 8) + 6) / 7 = n
  case neg =>
    have hNI : ((n * 7 / 8 : Nat) : Int) = (n : Int) * 7 / 8 := by rw [Int.natCast_ediv, Int.natCast_mul]; rfl
    have he2 : ((8 * ((n : Int) * 7 / 8) + 6) / 7 != (n : Int)) = true := by rw [bne_iff_ne, ← hNI]; generalize n * 7 / 8 = N at *; omega
    clear hNI
    go_enter Try.func25, Try.ntmps25
    go_wp2
    go_ret2
    refine ⟨.inr ⟨?_, rfl⟩, Below.refl _ _⟩
    unfold unpackN
    rw [if_neg]
    rw [← HN.out]
    exact fun h => hlen h.2.1
  have hNI0 : ((n * 7 / 8 : Nat) : Int) = (n : Int) * 7 / 8 := by rw [Int.natCast_ediv, Int.natCast_mul]; rfl
  have he2 : ((8 * ((n : Int) * 7 / 8) + 6) / 7 != (n : Int)) = false := by rw [bne_eq_false_iff_eq, ← hNI0]; generalize n * 7 / 8 = N at *; omega
  have HNI := Lib.hid hNI0
  clear hNI0
  have hN8 : 8 * (n * 7 / 8) ≤ 7 * n := by omega
  have HLEN := Lib.hid hlen
  clear hlen
  go_enter Try.func25, Try.ntmps25
  go_wp2
  go_loopw [5, 6] (fun v i wr => ∃ k : Nat, k ≤ n ∧ i = .int .i64 k ∧ Hid (whole (l.take k) = true) ∧ OwnB w.heap.size wr v (bitsN (val7 l) (7 * k)) ∧ Below w.heap.size w wr) (fun _ i _ => n - (intOf i).toNat)
  case atStart => exact ⟨0, Nat.zero_le _, rfl, rfl, OwnB.start _ _, Below.refl _ _⟩
  case round =>
    obtain ⟨k, hk, rfl, hw, hown, hbel⟩ := hrel
    by_cases hlt : k < n
    · obtain ⟨b, off, rfl, hcell, hbs⟩ := HB.out.at (k := k) (by have h1 := HN.out; omega)
      rw [← hbel.cell (by exact hbs)] at hcell
      have HT := Lib.hid (whole_take_succ l k (by have h1 := HN.out; omega))
      have HF := Lib.hid (whole_false l k (by have h1 := HN.out; omega))
      have HV : Hid (∀ j, j < 7 → val7 l / 2 ^ (7 * k + j) % 2 = (l.getD k 0).toNat % 128 / 2 ^ j % 2) := fun j hj => val7_bit l k j (by have h1 := HN.out; omega) hj
      have hc := (l.getD k 0).toNat_lt
      generalize hcd : (l.getD k 0).toNat = c at *
      have HCD := Lib.hid hcd
      clear hcd
      by_cases hlow : c < 128
      · have HFF := Lib.hid (HF.out (by have := HCD.out; omega))
        go_wp2
        go_ret2
        refine ⟨.inr ⟨?_, rfl⟩, hbel⟩
        unfold unpackN
        rw [if_neg]
        rw [HFF.out]
        exact fun h => by cases h.1
      · have HW' : Hid (whole (l.take (k + 1)) = true) := by have h1 := HT.out; rw [hw.out] at h1; exact h1.trans (by simp; omega)
        obtain ⟨d, hd⟩ : ∃ d, d = c - 128 := ⟨_, rfl⟩
        have hcd : c = d + 128 := by omega
        subst hcd
        clear hd
        have HV' : Hid (∀ j, j < 7 → val7 l / 2 ^ (7 * k + j) % 2 = d / 2 ^ j % 2) := fun j hj => by
          have h1 := HV.out j hj
          rwa [show (d + 128) % 128 = d from by omega] at h1
        clear HV HT HF HCD hlow
        obtain ⟨wo, hwo⟩ : ∃ wo : World, wo = wr := ⟨_, rfl⟩
        subst hwo
        go_wp2_with fail
        go_loopw [5, 7, 8] (fun v c' j wr => ∃ m : Nat, m ≤ 7 ∧ j = .int .i64 m ∧ c' = .int .u8 ((d / 2 ^ m : Nat) : Int) ∧ OwnB w.heap.size wr v (bitsN (val7 l) (7 * k + m)) ∧ Below w.heap.size w wr) (fun _ _ j _ => 7 - (intOf j).toNat)
        case atStart => exact ⟨0, by omega, rfl, by simp, hown, hbel⟩
        case round =>
          obtain ⟨m, hm, rfl, rfl, hown, hbel⟩ := hrel
          by_cases hlm : m < 7
          · have hcm : d / 2 ^ m < 128 := Nat.lt_of_le_of_lt (Nat.div_le_self _ _) (by omega)
            have HC := Lib.hid (show d / 2 ^ (m + 1) = d / 2 ^ m / 2 by rw [Nat.pow_succ, Nat.div_div_eq_div_mul])
            have HVm : Hid (((d / 2 ^ m % 2 : Nat) : Int) = ((UInt8.ofNat (val7 l / 2 ^ (7 * k + m) % 2)).toNat : Int)) := by show _ = _; rw [HV'.out m hlm]; simp; omega
            have HS := Lib.hid (bitsN_succ (val7 l) (7 * k + m))
            have HL := Lib.hid (bitsN_length (val7 l) (7 * k + m))
            generalize d / 2 ^ m = q at *
            generalize UInt8.ofNat (val7 l / 2 ^ (7 * k + m) % 2) = by1 at *
            go_wp2_with (at_builtin; refine wpList_append_u8 rfl (.tmp 45) (.tmp 48) rfl w.heap.size _ _ rfl hown _ by1 ?_ rfl ?_ ?_ ?_)
            · exact HVm.out
            · rw [HL.out]; omega
            · exact hbel.size
            intro v' w1 hown1 hg
            rw [← HS.out] at hown1
            have hbel1 := hbel.trans (hown.belowOf hg hbel.size)
            clear hg hown
            go_wp2
            go_roundw
            case rel => exact ⟨m + 1, by omega, by go_num, by rw [HC.out]; go_num, hown1, hbel1⟩
            case measure => simp [intOf]; omega
          · obtain rfl : m = 7 := by omega
            go_wp2
            go_roundw
            case rel => exact ⟨k + 1, by omega, by go_num, HW', hown, hbel⟩
            case measure => simp [intOf]; omega
    · obtain rfl : k = n := by omega
      have HWH : Hid (whole l = true) := by have h1 := hw.out; rw [List.take_of_length_le (by have h1 := HN.out; omega)] at h1; exact h1
      obtain ⟨a3, c3, n3, hv3, hn3, hb3, -, hblk⟩ := hown.bsn
      rw [bitsN_length] at hn3
      rw [hv3]
      subst hn3
      have HB3 := Lib.hid hb3
      clear hv3 hb3 hown hblk hw
      generalize hVd : val7 l = V at *
      have HVD := Lib.hid hVd
      clear hVd
      obtain ⟨N, hNd⟩ : ∃ N, N = k * 7 / 8 := ⟨_, rfl⟩
      have hNI := HNI.out
      rw [← hNd] at hN8 hNI
      have HND := Lib.hid hNd
      have hN2 : 7 * k < 8 * N + 8 := by omega
      rw [← hNd] at HLEN
      rw [← hNI] at he2
      clear hNd
      go_wp2
      rw [← hNI]
      have HNI2 := Lib.hid hNI
      clear hNI
      obtain ⟨w1, hw1⟩ : ∃ w1 : World, w1 = wr := ⟨_, rfl⟩
      subst hw1
      go_loopw [9, 10] (fun v i wr => ∃ q : Nat, q ≤ N ∧ i = .int .i64 q ∧ OwnB w1.heap.size wr v (bytesOf V q) ∧ Below w1.heap.size w1 wr) (fun _ i _ => N - (intOf i).toNat)
      case atStart => exact ⟨0, Nat.zero_le _, rfl, OwnB.start _ _, Below.refl _ _⟩
      case round =>
        obtain ⟨q, hq, rfl, hown, hb1⟩ := hrel
        by_cases hqN : q < N
        · obtain ⟨wo, hwo⟩ : ∃ wo : World, wo = wr := ⟨_, rfl⟩
          subst hwo
          go_wp2_with fail
          go_loop [11, 12] (fun c j => ∃ m r : Nat, m ≤ 8 ∧ j = .int .i64 ((m : Int) - 1) ∧ c = .int .i64 (r : Int) ∧ r < 256 ∧ Hid (r = V / 2 ^ (8 * q + m) % 2 ^ (8 - m))) (fun _ j => ((intOf j) + 1).toNat)
          case atStart => exact ⟨8, 0, by omega, rfl, rfl, by omega, (Nat.mod_one _).symm⟩
          case round =>
            obtain ⟨m, r, hm, rfl, rfl, hr, HR⟩ := hrel
            by_cases hm0 : 0 < m
            · obtain ⟨m1, rfl⟩ : ∃ m1, m = m1 + 1 := ⟨m - 1, by omega⟩
              obtain ⟨b, off, rfl, hcell, hbs⟩ := HB3.out.at (k := 8 * q + m1) (by rw [bitsN_length]; omega)
              rw [← hb1.cell (by exact hbs), bitsN_getD _ _ _ (by omega)] at hcell
              have HC : Hid (V / 2 ^ (8 * q + m1) % 2 ^ (8 - m1) = V / 2 ^ (8 * q + m1) % 2 + 2 * r) := by
                show _ = _
                have e : 2 ^ (8 - m1) = 2 * 2 ^ (8 - (m1 + 1)) := by rw [show 8 - m1 = 8 - (m1 + 1) + 1 from by omega, Nat.pow_succ, Nat.mul_comm]
                rw [e, Nat.mod_mul, HR.out, Nat.div_div_eq_div_mul, ← Nat.pow_succ]; rfl
              have hbit : V / 2 ^ (8 * q + m1) % 2 < 2 := Nat.mod_lt _ (by omega)
              have hr2 : V / 2 ^ (8 * q + m1) % 2 ^ (8 - m1) < 256 := Nat.lt_of_lt_of_le (Nat.mod_lt _ (Nat.two_pow_pos _)) (show 2 ^ (8 - m1) ≤ 2 ^ 8 from Nat.pow_le_pow_right (by omega) (by omega))
              rw [HC.out] at hr2
              generalize V / 2 ^ (8 * q + m1) % 2 = bt at *
              go_wp2
              go_round
              case rel => exact ⟨m1, bt + 2 * r, by omega, by go_num, by go_num, by omega, HC.out.symm⟩
              case measure => simp [intOf]
            · obtain rfl : m = 0 := by omega
              have HD : Hid ((r : Int) = ((UInt8.ofNat (V / 256 ^ q % 256)).toNat : Int)) := by
                show _ = _
                have h1 := HR.out
                rw [Nat.add_zero] at h1
                rw [pow256, h1]; simp
              have HS := Lib.hid (bytesOf_succ V q)
              have HL := Lib.hid (bytesOf_length V q)
              generalize UInt8.ofNat (V / 256 ^ q % 256) = d at *
              go_wp2_with (at_builtin; refine wpList_append_u8 rfl (.tmp 72) (.tmp 75) rfl w1.heap.size _ _ rfl hown _ d ?_ rfl ?_ ?_ ?_)
              · exact HD.out
              · rw [HL.out]; omega
              · exact hb1.size
              intro v' w2 hown2 hg
              rw [← HS.out] at hown2
              have hbel2 := hb1.trans (hown.belowOf hg hb1.size)
              clear hg hown
              go_wp2
              go_roundw
              case rel => exact ⟨q + 1, by omega, by go_num, hown2, hbel2⟩
              case measure => simp [intOf]; omega
        · obtain rfl : q = N := by omega
          have HB4 := Lib.hid (HB3.out.below hb1)
          go_wp2_with fail
          go_loop [13] (fun i => ∃ s : Nat, 8 * q ≤ s ∧ s ≤ 7 * k ∧ i = .int .i64 (s : Int) ∧ Hid (∀ y, 8 * q ≤ y → y < s → V / 2 ^ y % 2 = 0)) (fun i => 7 * k - (intOf i).toNat)
          case atStart => exact ⟨8 * q, Nat.le_refl _, hN8, by go_num, fun y h1 h2 => absurd h2 (by omega)⟩
          case round =>
            obtain ⟨s, hs1, hs2, rfl, HA⟩ := hrel
            by_cases hsl : s < 7 * k
            · obtain ⟨b, off, rfl, hcell, hbs⟩ := HB4.out.at (k := s) (by rw [bitsN_length]; omega)
              rw [bitsN_getD _ _ _ (by omega)] at hcell
              have hbit : V / 2 ^ s % 2 < 2 := Nat.mod_lt _ (by omega)
              have HBT : Hid (V / 2 ^ s % 2 = 1 → V / 2 ^ (8 * q) ≠ 0) := fun h h0 => by
                have : V / 2 ^ s = 0 := by
                  rw [show s = 8 * q + (s - 8 * q) from by omega, Nat.pow_add, ← Nat.div_div_eq_div_mul, h0]; simp
                rw [this] at h; simp at h
              generalize hbt : V / 2 ^ s % 2 = bt at *
              have HBD := Lib.hid hbt
              clear hbt
              by_cases hb1' : bt = 1
              · subst hb1'
                have HNZ := Lib.hid (HBT.out rfl)
                clear HBT
                go_wp2
                go_ret2
                refine ⟨.inr ⟨?_, rfl⟩, hbel.trans (hb1.mono hbel.size)⟩
                unfold unpackN
                rw [if_neg]
                rw [← HN.out, ← HND.out, HVD.out]
                exact fun h => HNZ.out h.2.2
              · have hb0 : bt = 0 := by omega
                subst hb0
                clear hb1' HBT
                go_wp2
                go_round
                case rel => exact ⟨s + 1, by omega, by omega, by go_num, fun y h1 h2 => by
                  by_cases hy : y = s
                  · rw [hy]; exact HBD.out
                  · exact HA.out y h1 (by omega)⟩
                case measure => simp [intOf]; omega
            · obtain rfl : s = 7 * k := by omega
              have HZ : Hid (V / 2 ^ (8 * q) = 0) := by
                refine Nat.eq_of_testBit_eq fun t => ?_
                rw [Nat.zero_testBit, Nat.testBit_div_two_pow]
                by_cases ht : t + 8 * q < 7 * k
                · have := HA.out (t + 8 * q) (by omega) ht
                  rw [Nat.testBit_eq_decide_div_mod_eq, this]; rfl
                · exact Nat.testBit_lt_two_pow (Nat.lt_of_lt_of_le HW.out (Nat.pow_le_pow_right (by omega) (by omega)))
              go_wp2
              go_ret2
              refine ⟨.inl ⟨_, _, ?_, rfl, hown.rebase (fun g hg => Nat.le_trans hbel.size (hown.lt g hg).1)⟩, hbel.trans (hb1.mono hbel.size)⟩
              unfold unpackN
              rw [if_pos, HVD.out, ← HN.out, ← HND.out]
              rw [← HN.out, ← HND.out, HVD.out]
              exact ⟨HWH.out, HLEN.out, HZ.out⟩
end Go.Proofs.Ytammicdgpdnihaa
