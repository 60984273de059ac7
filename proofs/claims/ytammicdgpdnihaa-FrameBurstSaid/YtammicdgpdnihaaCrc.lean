/- The walks of layer 3: each function of the packages crc and repertoryref03 computes what the plain functions of CrcMath say. -/
import Derived.Test.YtammicdgpdnihaaBase
import Derived.Test.YtammicdgpdnihaaCrcHalf
namespace Go.Proofs.Ytammicdgpdnihaa
open Go.RowKit

set_option maxHeartbeats 400000 in
theorem Step_any (r : Nat) (hr : r < 4294967296) (a : Option Addr) (l : List UInt8) (n cap : Nat) (w : World) (hn : n = l.length) (hb : Bs w a cap l) :
    Calls Try.prog 16 #[.int .u32 r, .slice a n cap] w fun e w' => e = .returned (.int .u32 (stepN r l)) ∧ Below w.heap.size w w' := by
  have hl := hb.fits hn
  have HN := Lib.hid hn
  have HB := Lib.hid hb
  clear hb hn
  go_enter Try.func16, Try.ntmps16
  go_wp2
  go_loopw [0, 9] (fun r' i wr => ∃ k : Nat, k ≤ n ∧ i = .int .i64 k ∧ r' = .int .u32 (stepN r (l.take k)) ∧ Below w.heap.size w wr) (fun _ i _ => n - (intOf i).toNat)
  case atStart => exact ⟨0, Nat.zero_le _, rfl, rfl, Below.refl _ _⟩
  case round =>
    obtain ⟨k, hk, rfl, rfl, hbel⟩ := hrel
    by_cases hlt : k < n
    · obtain ⟨b, off, rfl, hcell, hbs⟩ := HB.out.at (k := k) (by have h1 := HN.out; omega)
      rw [← hbel.cell (by exact hbs)] at hcell
      have hs := stepN_lt r hr (l.take k)
      have HS : Hid (stepN r (l.take (k+1)) = halfN (halfN (stepN r (l.take k) ^^^ (l.getD k 0).toNat))) := by
        rw [take_snoc l 0 k (by have h1 := HN.out; omega), stepN_snoc]; rfl
      have hc8 := (l.getD k 0).toNat_lt
      have HX : Hid (stepN r (l.take k) ^^^ (l.getD k 0).toNat < 4294967296) := Nat.xor_lt_two_pow (n := 32) hs (by omega)
      generalize (l.getD k 0).toNat = c at *
      generalize stepN r (l.take k) = s at *
      have hx : bits BinOp.xor IntKind.u32 s c = ((s ^^^ c : Nat) : Int) := u32_xor_nat _ _ hs (by omega)
      generalize s ^^^ c = x at *
      go_wp2_with fail
      refine (half_any x HX.out _).mono ?_; rintro e w1 ⟨rfl, hb1⟩
      go_wp2_with fail
      refine (half_any (halfN x) (halfN_lt _ HX.out) _).mono ?_; rintro e w2 ⟨rfl, hb2⟩
      go_wp2_with fail
      go_roundw
      case rel => exact ⟨k+1, by omega, by go_num, by rw [HS.out], (hbel.trans (hb1.mono hbel.size)).trans (hb2.mono (Nat.le_trans hbel.size hb1.size))⟩
      case measure => simp [intOf]; omega
    · go_wp2
      go_ret
      exact ⟨ret_int (by rw [List.take_of_length_le (by have h1 := HN.out; omega)]), hbel⟩

theorem CrcBegin_any (w : World) : Calls Try.prog 15 #[] w fun e w' => e = .returned (.int .u32 4294967295) ∧ w = w' := by
  go_enter Try.func15, Try.ntmps15
  go_wp2
  go_ret
  exact ⟨rfl, rfl⟩

theorem CrcEnd_any (r : Nat) (hr : r < 4294967296) (w : World) : Calls Try.prog 17 #[.int .u32 r] w fun e w' => e = .returned (.int .u32 ((4294967295 - r : Nat) : Int)) ∧ w = w' := by
  have hx : bits BinOp.xor IntKind.u32 IntKind.u32.max ↑r = ((4294967295 - r : Nat) : Int) := by
    rw [compl_xor r hr, Nat.xor_comm]
    exact u32_xor_nat 4294967295 r (by omega) hr
  have HX := Lib.hid hx
  clear hx
  go_enter Try.func17, Try.ntmps17
  go_wp2
  go_ret
  exact ⟨ret_int HX.out, rfl⟩

/-- the register behind parts -/
def stepsN (r : Nat) (ls : List (List UInt8)) : Nat := ls.foldl stepN r
theorem stepsN_snoc (r : Nat) (ls : List (List UInt8)) (l : List UInt8) : stepsN r (ls ++ [l]) = stepN (stepsN r ls) l := by simp [stepsN]
theorem stepsN_lt (r : Nat) (hr : r < 4294967296) (ls : List (List UInt8)) : stepsN r ls < 4294967296 := by
  induction ls generalizing r with
  | nil => exact hr
  | cons c l ih => exact ih _ (stepN_lt r hr c)
theorem stepsN_flat (r : Nat) (ls : List (List UInt8)) : stepsN r ls = stepN r ls.flatten := by
  induction ls generalizing r with
  | nil => rfl
  | cons c l ih => show stepsN (stepN r c) l = _; rw [ih, List.flatten_cons, stepN_append]

set_option maxHeartbeats 400000 in
theorem CrcOf_any (a : Option Addr) (ls : List (List UInt8)) (n cap : Nat) (w : World) (hn : n = ls.length) (hb : Bss w a cap ls) :
    Calls Try.prog 19 #[.slice a n cap] w fun e w' => e = .returned (.int .u32 (sumN ls.flatten)) ∧ Below w.heap.size w w' := by
  have hl := hb.fits hn
  have HN := Lib.hid hn
  have HB := Lib.hid hb
  clear hb hn
  go_enter Try.func19, Try.ntmps19
  go_wp2_with fail
  refine (CrcBegin_any _).mono ?_; rintro e w1 ⟨rfl, rfl⟩
  go_wp2_with fail
  go_loopw [3, 9] (fun r' i wr => ∃ k : Nat, k ≤ n ∧ i = .int .i64 k ∧ r' = .int .u32 (stepsN 4294967295 (ls.take k)) ∧ Below w.heap.size w wr) (fun _ i _ => n - (intOf i).toNat)
  case atStart => exact ⟨0, Nat.zero_le _, rfl, rfl, Below.refl _ _⟩
  case round =>
    obtain ⟨k, hk, rfl, rfl, hbel⟩ := hrel
    have hs := stepsN_lt 4294967295 (by omega) (ls.take k)
    by_cases hlt : k < n
    · obtain ⟨b, off, ai, ci, rfl, hcell, hbs, hbi⟩ := HB.out.at (k := k) (by have h1 := HN.out; omega)
      rw [← hbel.cell (by exact hbs)] at hcell
      have hbi := hbi.below hbel
      have HS : Hid (stepsN 4294967295 (ls.take (k+1)) = stepN (stepsN 4294967295 (ls.take k)) (ls.getD k [])) := by
        rw [take_snoc ls [] k (by have h1 := HN.out; omega), stepsN_snoc]; rfl
      generalize ls.getD k [] = p at *
      generalize stepsN 4294967295 (ls.take k) = s at *
      have HBI := Lib.hid hbi
      clear hbi
      go_wp2_with fail
      refine (Step_any s hs ai p _ ci _ rfl HBI.out).mono ?_; rintro e w1 ⟨rfl, hb1⟩
      go_wp2_with fail
      go_roundw
      case rel => exact ⟨k+1, by omega, by go_num, by rw [HS.out], (hbel.trans (hb1.mono hbel.size))⟩
      case measure => simp [intOf]; omega
    · have HS : Hid (stepsN 4294967295 (ls.take k) = stepN 4294967295 ls.flatten) := by
        rw [List.take_of_length_le (by have h1 := HN.out; omega), stepsN_flat]; rfl
      generalize stepsN 4294967295 (ls.take k) = s at *
      go_wp2_with fail
      refine (CrcEnd_any s hs _).mono ?_; rintro e w1 ⟨rfl, rfl⟩
      go_wp2
      go_ret
      exact ⟨ret_int (by rw [HS.out]; rfl), hbel⟩

set_option maxHeartbeats 400000 in
theorem refStep_any (r : Nat) (hr : r < 4294967296) (a : Option Addr) (l : List UInt8) (n cap : Nat) (w : World) (hn : n = l.length) (hb : Bs w a cap l) :
    Calls Try.prog 21 #[.int .u32 r, .slice a n cap] w fun e w' => e = .returned (.int .u32 (stepN r l)) ∧ w = w' := by
  have hl := hb.fits hn
  have HN := Lib.hid hn
  have HB := Lib.hid hb
  clear hb hn
  go_enter Try.func21, Try.ntmps21
  go_wp2
  go_loop [0, 5] (fun r' i => ∃ k : Nat, k ≤ n ∧ i = .int .i64 k ∧ r' = .int .u32 (stepN r (l.take k))) (fun _ i => n - (intOf i).toNat)
  case atStart => exact ⟨0, Nat.zero_le _, rfl, rfl⟩
  case round =>
    obtain ⟨k, hk, rfl, rfl⟩ := hrel
    by_cases hlt : k < n
    · obtain ⟨b, off, rfl, hcell, hbs⟩ := HB.out.at (k := k) (by have h1 := HN.out; omega)
      have hs := stepN_lt r hr (l.take k)
      have HS : Hid (stepN r (l.take (k+1)) = refBits (stepN r (l.take k)) (l.getD k 0).toNat 8) := by
        rw [take_snoc l 0 k (by have h1 := HN.out; omega), stepN_snoc, refBits_8]; rfl
      have hc8 := (l.getD k 0).toNat_lt
      generalize (l.getD k 0).toNat = c at *
      generalize stepN r (l.take k) = s at *
      go_wp2_with fail
      go_loop [0, 6, 7] (fun r' c' j => ∃ m : Nat, m ≤ 8 ∧ j = .int .i64 m ∧ c' = .int .u8 ((c / 2 ^ m : Nat) : Int) ∧ r' = .int .u32 (refBits s c m)) (fun _ _ j => 8 - (intOf j).toNat)
      case atStart => exact ⟨0, by omega, rfl, by simp, rfl⟩
      case round =>
        obtain ⟨m, hm, rfl, rfl, rfl⟩ := hrel
        have hs' := refBits_lt s c m hs
        by_cases hlm : m < 8
        · have hcm : c / 2 ^ m < 256 := Nat.lt_of_le_of_lt (Nat.div_le_self _ _) hc8
          have HR : Hid (refBits s c (m + 1) = refBit (refBits s c m) (c / 2 ^ m)) := rfl
          have HC : Hid (c / 2 ^ (m + 1) = c / 2 ^ m / 2) := by show _ = _; rw [Nat.pow_succ, Nat.div_div_eq_div_mul]
          generalize c / 2 ^ m = d at *
          generalize refBits s c m = q at *
          by_cases hpar : d % 2 = q % 2
          · have hne : ((d : Int) % 2 != (q : Int) % 2) = false := by rw [bne_eq_false_iff_eq]; omega
            have HR' : Hid (refBits s c (m + 1) = q / 2) := by rw [HR.out, refBit, if_pos hpar]; rfl
            clear hpar
            go_wp2
            go_round
            case rel => exact ⟨m+1, by omega, by go_num, by rw [HC.out]; go_num, by rw [HR'.out]; go_num⟩
            case measure => simp [intOf]; omega
          · have hne : ((d : Int) % 2 != (q : Int) % 2) = true := by rw [bne_iff_ne]; omega
            have HR' : Hid (refBits s c (m + 1) = (q / 2) ^^^ poly) := by rw [HR.out, refBit, if_neg hpar]; rfl
            have hx : bits BinOp.xor IntKind.u32 (↑q / 2) 3988292384 = (((q / 2) ^^^ poly : Nat) : Int) := by
              rw [show ((q : Int) / 2) = ((q / 2 : Nat) : Int) from by omega]
              exact u32_xor_nat _ 3988292384 (by omega) (by omega)
            have HX := Lib.hid hx
            clear hpar hx
            go_wp2
            go_round
            case rel => exact ⟨m+1, by omega, by go_num, by rw [HC.out]; go_num, by rw [HR'.out, ← HX.out]⟩
            case measure => simp [intOf]; omega
        · obtain rfl : m = 8 := by omega
          go_wp2
          go_round
          case rel => exact ⟨k+1, by omega, by go_num, by rw [HS.out]⟩
          case measure => simp [intOf]; omega
    · go_wp2
      go_ret
      exact ⟨ret_int (by rw [List.take_of_length_le (by have h1 := HN.out; omega)]), rfl⟩

theorem refSum_any (a : Option Addr) (l : List UInt8) (n cap : Nat) (w : World) (hn : n = l.length) (hb : Bs w a cap l) :
    Calls Try.prog 18 #[.slice a n cap] w fun e w' => e = .returned (.int .u32 (sumN l)) ∧ w = w' := by
  have HB := Lib.hid hb
  have HN := Lib.hid hn
  have hs := stepN_lt 4294967295 (by omega) l
  have HS : Hid (sumN l = 4294967295 - stepN 4294967295 l) := rfl
  clear hb hn
  go_enter Try.func18, Try.ntmps18
  go_wp2_with fail
  refine (refStep_any 4294967295 (by omega) a l n cap _ HN.out HB.out).mono ?_; rintro e w1 ⟨rfl, rfl⟩
  generalize stepN 4294967295 l = s at *
  go_wp2
  go_ret
  exact ⟨ret_int (by rw [HS.out]; omega), rfl⟩

end Go.Proofs.Ytammicdgpdnihaa
