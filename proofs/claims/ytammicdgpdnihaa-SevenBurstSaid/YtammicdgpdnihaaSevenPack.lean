/- Walk of layer 6: seven.Pack. -/
import Derived.Test.YtammicdgpdnihaaSevenBits
namespace Go.Proofs.Ytammicdgpdnihaa
open Go.RowKit

/-- Where packing stands behind the bytes bl: what was put out, what rests, and how many bits that are. -/
def PackSt (w wr : World) (v r k : Value) (bl : List UInt8) : Prop :=
  ∃ m R K : Nat, r = .int .u64 (R : Int) ∧ k = .int .i64 (K : Int) ∧ 7 * m + K = 8 * bl.length ∧ K < 7 ∧ R < 128 ∧ Hid (R = valN bl / 2 ^ (7 * m)) ∧ OwnB w.heap.size wr v (pk (valN bl) m) ∧ Below w.heap.size w wr

theorem PackSt.start (w : World) : PackSt w w (.slice none 0 0) (.int .u64 0) (.int .i64 0) [] :=
  ⟨0, 0, 0, rfl, rfl, rfl, by omega, by omega, rfl, OwnB.start _ _, Below.refl _ _⟩

theorem flatten_le (ls : List (List UInt8)) (k : Nat) : (ls.take k).flatten.length ≤ ls.flatten.length := by
  have h := congrArg List.length (List.take_append_drop k ls ▸ (rfl : ls.flatten = ls.flatten))
  have : ls.flatten = (ls.take k).flatten ++ (ls.drop k).flatten := by rw [← List.flatten_append, List.take_append_drop]
  rw [this, List.length_append]; omega

theorem flatten_take_succ (ls : List (List UInt8)) (k : Nat) (h : k < ls.length) : (ls.take (k + 1)).flatten = (ls.take k).flatten ++ ls.getD k [] := by
  rw [take_snoc ls [] k h]; simp

theorem or128 (x : Nat) (h : x < 128) : bits BinOp.or IntKind.u8 (x : Int) 128 = ((x + 128 : Nat) : Int) := by
  rw [show (128 : Int) = ((128 : Nat) : Int) from rfl, u8_or_nat x 128 (by omega) (by omega)]
  have := or_join x 1 7 (by omega)
  simp at this
  rw [this]

set_option maxRecDepth 100000 in
set_option maxHeartbeats 2000000 in
theorem Pack_any (a : Option Addr) (ls : List (List UInt8)) (n cap : Nat) (w : World) (hn : n = ls.length) (hmax : ls.flatten.length ≤ 1000000) (hb : Bss w a cap ls) :
    Calls Try.prog 27 #[.slice a n cap] w fun e w' => ∃ v, e = .returned v ∧ OwnB w.heap.size w' v (packN ls.flatten) ∧ Below w.heap.size w w' := by
  have hl := hb.fits hn
  have HN := Lib.hid hn
  have HB := Lib.hid hb
  have HMAX := Lib.hid hmax
  clear hb hn hmax
  go_enter Try.func27, Try.ntmps27
  go_wp2
  go_loopw [3, 4, 5, 12] (fun v r kk i wr => ∃ k : Nat, k ≤ n ∧ i = .int .i64 (k : Int) ∧ PackSt w wr v r kk (ls.take k).flatten) (fun _ _ _ i _ => n - (intOf i).toNat)
  case atStart => exact ⟨0, Nat.zero_le _, rfl, PackSt.start w⟩
  case round =>
    obtain ⟨k, hk, rfl, hst⟩ := hrel
    by_cases hlt : k < n
    · have hbel : Below w.heap.size w wr := by obtain ⟨_, _, _, _, _, _, _, _, _, _, h⟩ := hst; exact h
      obtain ⟨b, off, ai, ci, rfl, hcell, hbs, hbi⟩ := HB.out.at (k := k) (by have h1 := HN.out; omega)
      rw [← hbel.cell (by exact hbs)] at hcell
      have HF := Lib.hid (flatten_take_succ ls k (by have h1 := HN.out; omega))
      have HFL := Lib.hid (flatten_le ls (k + 1))
      generalize ls.getD k [] = p at *
      generalize (ls.take k).flatten = f at *
      obtain ⟨pl, hpl⟩ : ∃ pl, pl = p.length := ⟨_, rfl⟩
      rw [← hpl] at hcell
      have hplb : pl ≤ 1000000 := by
        have h1 := HFL.out; have h2 := HMAX.out
        rw [HF.out, List.length_append, ← hpl] at h1; omega
      have hfl : f.length + pl ≤ 1000000 := by
        have h1 := HFL.out; have h2 := HMAX.out
        rw [HF.out, List.length_append, ← hpl] at h1; omega
      have HFLB := Lib.hid hfl
      have HPL := Lib.hid hpl
      have HBI := Lib.hid hbi
      clear hpl hbi hfl
      obtain ⟨m0, R0, K0, rfl, rfl, hst⟩ := hst
      have HST : Hid (PackSt w wr u3 (.int .u64 (R0 : Int)) (.int .i64 (K0 : Int)) f) := ⟨m0, R0, K0, rfl, rfl, hst⟩
      clear hst
      obtain ⟨wo, hwo⟩ : ∃ wo : World, wo = wr := ⟨_, rfl⟩
      subst hwo
      go_wp2
      go_loopw [3, 4, 5, 18] (fun v r kk i wr => ∃ j : Nat, j ≤ pl ∧ i = .int .i64 (j : Int) ∧ PackSt w wr v r kk (f ++ p.take j)) (fun _ _ _ i _ => pl - (intOf i).toNat)
      case atStart => exact ⟨0, Nat.zero_le _, rfl, by simpa using HST.out⟩
      case round =>
        obtain ⟨j, hj, rfl, m, R, K, rfl, rfl, hK, hK7, hR, HR, hown, hbel⟩ := hrel
        by_cases hjl : j < pl
        · obtain ⟨b2, off2, rfl, hcell2, hbs2⟩ := HBI.out.at (k := j) (by have h1 := HPL.out; omega)
          rw [← hbel.cell (by exact hbs2)] at hcell2
          have hc := (p.getD j 0).toNat_lt
          have hps := pack_step (f ++ p.take j) (p.getD j 0) m K R (R + (p.getD j 0).toNat * 2 ^ K) hK HR.out rfl
          have HAPP : Hid (f ++ p.take j ++ [p.getD j 0] = f ++ p.take (j + 1)) := by
            show _ = _
            rw [take_snoc p 0 j (by have h1 := HPL.out; omega), List.append_assoc]
          have HLEN : Hid (8 * (f ++ p.take (j + 1)).length = 7 * m + K + 8) := by
            show _ = _
            rw [hK, ← HAPP.out]; simp only [List.length_append, List.length_cons, List.length_nil]; omega
          rw [HAPP.out] at hps
          have hmb : 7 * m + K + 8 ≤ 8 * 1000000 := by
            have h1 := HLEN.out; have h2 := HFLB.out; have h3 := HPL.out
            rw [List.length_append, List.length_take] at h1; omega
          clear hK
          generalize (p.getD j 0).toNat = c at *
          have hK2 : 2 ^ K ≤ 64 := Nat.pow_le_pow_right (n := 2) (j := 6) (by omega) (by omega)
          have hdK : c * 2 ^ K ≤ 255 * 64 := Nat.mul_le_mul (by omega) hK2
          obtain ⟨S, hS⟩ : ∃ S, S = R + c * 2 ^ K := ⟨_, rfl⟩
          have HOR : Hid (bits BinOp.or IntKind.u64 (R : Int) (IntKind.u64.wrap ((c : Int) * 2 ^ K)) = (S : Int)) := by
            have e : ((c : Int) * 2 ^ K) = ((c * 2 ^ K : Nat) : Int) := by push_cast; rfl
            show _ = _
            rw [e, IntKind.wrap_u64, show ((c * 2 ^ K : Nat) : Int) % 18446744073709551616 = ((c * 2 ^ K : Nat) : Int) from by omega, u64_or_nat _ _ (by omega) (by omega), or_join R c K hps.2.1, ← hS]
          have hSb : S < 32768 := by omega
          rw [← hS] at hps
          have HPK := Lib.hid hps.2.2.1
          have HSV := Lib.hid hps.1
          have HSK := Lib.hid hps.2.2.2
          rw [← HPK.out] at hown
          clear hps hS hK2 hdK HR
          generalize hVd : valN (f ++ p.take (j + 1)) = V at *
          have HVD := Lib.hid hVd
          clear hVd HPK
          obtain ⟨wi, hwi⟩ : ∃ wi : World, wi = wr := ⟨_, rfl⟩
          subst hwi
          have hor := HOR.out
          obtain ⟨T, hT⟩ : ∃ T, T = 7 * m + K + 8 := ⟨_, rfl⟩
          rw [← hT] at HLEN hmb
          go_wp2
          clear hor
          go_loopw [3, 4, 5] (fun v r kk wr => ∃ m2 S2 K2 : Nat, r = .int .u64 (S2 : Int) ∧ kk = .int .i64 (K2 : Int) ∧ 7 * m2 + K2 = T ∧ K2 < 15 ∧ S2 < 32768 ∧ Hid (S2 = V / 2 ^ (7 * m2)) ∧ Hid (S2 < 2 ^ K2) ∧ OwnB w.heap.size wr v (pk V m2) ∧ Below w.heap.size w wr) (fun _ _ kk _ => (intOf kk).toNat)
          case atStart => exact ⟨m, S, K + 8, rfl, by go_num, by omega, by omega, hSb, HSV.out, HSK.out, hown, hbel⟩
          case round =>
            obtain ⟨m2, S2, K2, rfl, rfl, hT2, hK15, hS2, HS2, HSK2, hown, hbel⟩ := hrel
            by_cases h7 : 7 ≤ K2
            · have hand : bits BinOp.and IntKind.u64 (S2 : Int) 127 = ((S2 % 128 : Nat) : Int) := by
                rw [show (127 : Int) = ((127 : Nat) : Int) from rfl, u64_and_nat S2 127 (by omega) (by omega), nat_mask7]
              have hq : S2 % 128 < 128 := Nat.mod_lt _ (by omega)
              have hor2 := or128 (S2 % 128) hq
              have hpo := pack_out V m2 S2 HS2.out
              have HD : Hid (((S2 % 128 + 128 : Nat) : Int) = ((UInt8.ofNat (S2 % 128 + 128)).toNat : Int)) := by show _ = _; simp; omega
              have HPO := Lib.hid hpo.1
              have HDV := Lib.hid hpo.2
              have HL := Lib.hid (pk_length V m2)
              have HSK3 : Hid (S2 / 128 < 2 ^ (K2 - 7)) := by
                have h1 := HSK2.out
                show _ < _
                rw [Nat.div_lt_iff_lt_mul (by omega), show (128 : Nat) = 2 ^ 7 from rfl, ← Nat.pow_add, show K2 - 7 + 7 = K2 from by omega]; exact h1
              clear hpo
              have HAND := Lib.hid hand
              clear hand
              generalize UInt8.ofNat (S2 % 128 + 128) = by1 at *
              generalize hqd : S2 % 128 = q at *
              have HQD := Lib.hid hqd
              clear hqd
              have hand := HAND.out
              go_wp2_with (at_builtin; refine wpList_append_u8 rfl (.tmp 32) (.tmp 37) rfl w.heap.size _ _ rfl hown _ by1 ?_ rfl ?_ ?_ ?_)
              · exact HD.out
              · rw [HL.out]; omega
              · exact hbel.size
              intro v' w2 hown2 hg
              rw [← HPO.out] at hown2
              have hbel2 := hbel.trans (hown.belowOf hg hbel.size)
              clear hg hown hand hor2
              go_wp2
              go_roundw
              case rel => exact ⟨m2 + 1, S2 / 128, K2 - 7, by go_num, by go_num, by omega, by omega, by omega, HDV.out, HSK3.out, hown2, hbel2⟩
              case measure => simp [intOf]; omega
            · have HS128 : Hid (S2 < 128) := by
                have h1 := HSK2.out
                have h2 : 2 ^ K2 ≤ 2 ^ 7 := Nat.pow_le_pow_right (by omega) (by omega)
                show _ < _; omega
              go_wp2
              go_roundw
              case rel => exact ⟨j + 1, by omega, by go_num, m2, S2, K2, rfl, rfl, by have h1 := HLEN.out; omega, by omega, HS128.out, by show _ = _; rw [HVD.out]; exact HS2.out, by rw [HVD.out]; exact hown, hbel⟩
              case measure => simp [intOf]; omega
        · obtain rfl : j = pl := by omega
          have hPL := HPL.out
          rw [List.take_of_length_le (by omega)] at HR hown hK
          clear hPL
          go_wp2
          go_roundw
          case rel => exact ⟨k + 1, by omega, by go_num, by rw [HF.out]; exact ⟨m, R, K, rfl, rfl, hK, hK7, hR, HR, hown, hbel⟩⟩
          case measure => simp [intOf]; omega
    · obtain ⟨m, R, K, rfl, rfl, hK, hK7, hR, HR, hown, hbel⟩ := hst
      rw [List.take_of_length_le (by have h1 := HN.out; omega)] at HR hown hK
      have hRK : R < 2 ^ K := by
        rw [HR.out, show K = 8 * ls.flatten.length - 7 * m from by omega]
        exact div_lt_pow _ _ _ (valN_lt _) (by omega)
      have hpe := pack_end (valN ls.flatten) m K R ls.flatten.length hK hK7 HR.out hRK
      have HPN : Hid (packN ls.flatten = pk (valN ls.flatten) ((8 * ls.flatten.length + 6) / 7)) := rfl
      have hmb : m ≤ 2000000 := by have := HMAX.out; omega
      clear hRK hK
      by_cases hK0 : 0 < K
      · have HPE := Lib.hid (hpe.2 hK0)
        have HD : Hid (((R + 128 : Nat) : Int) = ((UInt8.ofNat (R + 128)).toNat : Int)) := by show _ = _; simp; omega
        have HL := Lib.hid (pk_length (valN ls.flatten) m)
        have hor2 := or128 R hR
        clear hpe
        generalize UInt8.ofNat (R + 128) = by1 at *
        go_wp2_with (at_builtin; refine wpList_append_u8 rfl (.tmp 47) (.tmp 51) rfl w.heap.size _ _ rfl hown _ by1 ?_ rfl ?_ ?_ ?_)
        · exact HD.out
        · rw [HL.out]; omega
        · exact hbel.size
        intro v' w2 hown2 hg
        rw [← HPE.out, ← HPN.out] at hown2
        have hbel2 := hbel.trans (hown.belowOf hg hbel.size)
        clear hg hown hor2
        go_wp2
        go_ret
        exact ⟨_, rfl, hown2, hbel2⟩
      · obtain rfl : K = 0 := by omega
        have HPE := Lib.hid (hpe.1 rfl)
        clear hpe
        rw [← HPE.out, ← HPN.out] at hown
        go_wp2
        go_ret
        exact ⟨_, rfl, hown, hbel⟩
end Go.Proofs.Ytammicdgpdnihaa
