/- The walks of repertorylaw01.few and bytes. -/
import Derived.Test.YthicaomghefedaaOctetMath
import Derived.Test.YthicaomghefedaaPuts
namespace Go.Proofs.Ythicaomghefedaa
open Go.RowKit

/-- A store into a slice of the call's own. -/
theorem OwnB.set {base : Nat} {w : World} {g n cap : Nat} {l : List UInt8} (h : OwnB base w (.slice (some ⟨g, 0, none⟩) n cap) l) (j : Nat) (c : UInt8) :
    OwnB base (w.setCell ⟨g, j, none⟩ (.int .u8 (c.toNat : Int))) (.slice (some ⟨g, 0, none⟩) n cap) (l.set j c) := by
  rcases h.2 with ⟨hv, _⟩ | ⟨g', cap', cur, hv, hbg, hg, h1, h2, h3, h4⟩
  · cases hv
  cases hv
  refine ⟨by simp, .inr ⟨g, cap, cur.setIfInBounds j (u8v c), by simp, hbg, ?_, by simpa using h1, h2, by simpa using h3, ?_⟩⟩
  · rw [heap_setCell_same w g j _ _ _ hg]; rfl
  · rw [Array.toList_setIfInBounds, List.length_set, List.take_set, h4, List.map_set]

theorem OwnB.cellAt {base : Nat} {w : World} {g n cap : Nat} {l : List UInt8} (h : OwnB base w (.slice (some ⟨g, 0, none⟩) n cap) l) {j : Nat} (hj : j < l.length) : w.cell? ⟨g, j, none⟩ = some (.int .u8 ((l.getD j 0).toNat : Int)) := by
  obtain ⟨a, c, hv, hb, -, -⟩ := h.bs
  simp only [Value.slice.injEq] at hv
  obtain ⟨rfl, -, rfl⟩ := hv
  obtain ⟨b, off, ha, hc, -⟩ := hb.at hj
  simp only [Option.some.injEq, Addr.mk.injEq] at ha
  obtain ⟨rfl, rfl, -⟩ := ha
  rw [Nat.zero_add] at hc
  exact hc
theorem OwnB.free {base : Nat} {w : World} {g n cap : Nat} {l : List UInt8} (h : OwnB base w (.slice (some ⟨g, 0, none⟩) n cap) l) (j : Nat) : w.frozen? ⟨g, j, none⟩ = false := by
  rcases h.2 with ⟨h0, _⟩ | ⟨g', cap', cur, h0, hbg, hg, _⟩
  · cases h0
  · simp only [Value.slice.injEq, Option.some.injEq, Addr.mk.injEq] at h0
    obtain ⟨⟨rfl, -, -⟩, -, -⟩ := h0
    simp [World.frozen?, hg]

def fewN (ls : List PutN) : Bool := decide (ls.length ≤ 60) && ls.all fun y => decide (y.b.length ≤ 100)

theorem few_any (a : Option Addr) (ls : List PutN) (n cap : Nat) (w : World) (hn : n = ls.length) (hb : Ps w a cap ls) :
    Calls Try.prog 18 #[.slice a n cap] w fun e w' => e = .returned (.bool (fewN ls)) ∧ w = w' := by
  have hl := hb.fits hn
  have HN := Lib.hid hn
  have HB := Lib.hid hb
  clear hb hn
  by_cases h1 : 60 < n
  · have HF : Hid (fewN ls = false) := by show _ = _; have h2 := HN.out; unfold fewN; rw [decide_eq_false (by omega)]; rfl
    rw [HF.out]
    go_enter Try.func18, Try.ntmps18
    go_wp2
    go_ret
    exact ⟨rfl, rfl⟩
  have HF0 : Hid (fewN ls = ls.all fun y => decide (y.b.length ≤ 100)) := by show _ = _; have h2 := HN.out; unfold fewN; rw [decide_eq_true (by omega)]; rfl
  rw [HF0.out]
  go_enter Try.func18, Try.ntmps18
  go_wp2
  go_loop [3] (fun i => ∃ k : Nat, k ≤ n ∧ i = .int .i64 k ∧ Hid ((ls.take k).all (fun y => decide (y.b.length ≤ 100)) = true)) (fun i => n - (intOf i).toNat)
  case atStart => exact ⟨0, Nat.zero_le _, rfl, rfl⟩
  case round =>
    obtain ⟨k, hk, rfl, HA⟩ := hrel
    by_cases hlt : k < n
    · obtain ⟨b, off, ai, ci, rfl, hc0, hc1, hc2, hbs, -, -, -⟩ := HB.out.at (k := k) (by have h2 := HN.out; omega)
      have HT : Hid ((ls.take (k + 1)).all (fun y => decide (y.b.length ≤ 100)) = decide ((ls.getD k PutN.zero).b.length ≤ 100)) := by
        show _ = _
        rw [take_snoc ls PutN.zero k (by have h2 := HN.out; omega), List.all_append, HA.out]; simp
      have HS : Hid ((ls.getD k PutN.zero).b.length > 100 → ls.all (fun y => decide (y.b.length ≤ 100)) = false) := by
        intro h
        have hk' : k < ls.length := by have h2 := HN.out; omega
        rw [List.all_eq_false]
        refine ⟨ls[k], List.getElem_mem hk', ?_⟩
        have e : ls.getD k PutN.zero = ls[k] := by simp [List.getD, hk']
        rw [e] at h
        simp; omega
      have hfit := hbs.le
      have htop := hbs.top
      generalize (ls.getD k PutN.zero).b.length = m at *
      by_cases hbig : 100 < m
      · have HSF := Lib.hid (HS.out hbig)
        go_wp2
        go_ret
        exact ⟨ret_bool HSF.out.symm, rfl⟩
      · go_wp2
        go_round
        case rel => exact ⟨k + 1, by omega, by go_num, by show _ = _; rw [HT.out]; simp; omega⟩
        case measure => simp [intOf]; omega
    · obtain rfl : k = n := by omega
      have HE : Hid (ls.all (fun y => decide (y.b.length ≤ 100)) = true) := by show _ = _; rw [← HA.out, List.take_of_length_le (by have h2 := HN.out; omega)]
      go_wp2
      go_ret
      exact ⟨ret_bool HE.out.symm, rfl⟩

theorem beN_getD (v m k : Nat) (h : k < m) : (beN v m).getD k 0 = UInt8.ofNat (v / 2 ^ (8 * (m - 1 - k)) % 256) := by
  unfold beN; simp [List.getD, h]
theorem bytes_step (v m k : Nat) (h : k + 1 ≤ m) : (List.replicate (k + 1) (0 : UInt8) ++ (beN v m).drop (k + 1)).set k (UInt8.ofNat (v / 2 ^ (8 * (m - (k + 1))) % 256)) = List.replicate k 0 ++ (beN v m).drop k := by
  have h1 : (beN v m).drop k = (beN v m).getD k 0 :: (beN v m).drop (k + 1) := by
    rw [List.drop_eq_getElem_cons (by rw [beN_length]; omega)]
    congr 1
    have hk : k < (beN v m).length := by rw [beN_length]; omega
    simp [List.getD, hk]
  rw [h1, beN_getD v m k (by omega), show m - 1 - k = m - (k + 1) by omega]
  rw [List.replicate_succ', List.append_assoc, List.set_append_right _ _ (by simp)]
  simp

set_option maxRecDepth 100000 in
theorem bytes_any (n : Int) (v : Nat) (w : World) (hn1 : -9223372036854775808 ≤ n) (hn2 : n ≤ 9223372036854775807) (hv : v < 18446744073709551616) :
    Calls Try.prog 21 #[.int .i64 n, .int .u64 v] w fun e w' =>
      ∃ x, e = .returned (.tuple #[x, .bool (fitsN n v)]) ∧ OwnB w.heap.size w' x (if 1 ≤ n ∧ n ≤ 8 then beN v n.toNat else []) ∧ Below w.heap.size w w' := by
  by_cases h1 : n < 1
  · have HF : Hid (fitsN n v = false) := decide_eq_false (by omega)
    rw [HF.out, if_neg (by omega)]
    go_enter Try.func21, Try.ntmps21
    go_wp2
    go_ret2
    exact ⟨_, rfl, OwnB.start _ _, Below.refl _ _⟩
  by_cases h8 : 8 < n
  · have HF : Hid (fitsN n v = false) := decide_eq_false (by omega)
    rw [HF.out, if_neg (by omega)]
    go_enter Try.func21, Try.ntmps21
    go_wp2
    go_ret2
    exact ⟨_, rfl, OwnB.start _ _, Below.refl _ _⟩
  obtain ⟨m, rfl⟩ : ∃ m : Nat, n = m := ⟨n.toNat, by omega⟩
  have HF : Hid (fitsN (m : Int) v = decide (v / 2 ^ (8 * m) = 0)) := by
    show _ = _
    unfold fitsN
    rw [Bool.eq_iff_iff, decide_eq_true_eq, decide_eq_true_eq, Int.toNat_natCast, Nat.div_eq_zero_iff_lt (Nat.pow_pos (by decide))]
    exact ⟨fun h => h.2.2, fun h => ⟨by omega, by omega, h⟩⟩
  rw [HF.out, if_pos (by omega), Int.toNat_natCast]
  have HFC := Lib.hid (Int.ofNat_lt.2 hv)
  go_enter Try.func21, Try.ntmps21
  go_wp2_with (refine wpList_make_u8 rfl (.tmp 14) (.tmp 14) rfl m rfl rfl (by omega) ?_; intro w1 hown1 hb1)
  go_loopw [1, 7] (fun x i wr => ∃ k : Nat, k ≤ m ∧ i = .int .i64 ((k : Int) - 1) ∧ x = .int .u64 ((v / 2 ^ (8 * (m - k)) : Nat)) ∧ OwnB w.heap.size wr (.slice (some ⟨w.heap.size, 0, none⟩) m m) (List.replicate k 0 ++ (beN v m).drop k) ∧ Below w.heap.size w wr) (fun _ i _ => (intOf i + 1).toNat)
  case atStart => exact ⟨m, Nat.le_refl _, rfl, by simp, by rw [List.drop_eq_nil_of_le (by rw [beN_length]; exact Nat.le_refl _), List.append_nil]; exact hown1.out, hb1⟩
  case round =>
    obtain ⟨k, hk, rfl, rfl, hown, hbr⟩ := hrel
    by_cases hlt : 0 < k
    · obtain ⟨k, rfl⟩ : ∃ j, k = j + 1 := ⟨k - 1, by omega⟩
      rw [show (((k + 1 : Nat) : Int) - 1) = (k : Int) by omega]
      have HS := Lib.hid (bytes_step v m k hk)
      have HV : Hid (v / 2 ^ (8 * (m - k)) = v / 2 ^ (8 * (m - (k + 1))) / 256) := by
        show _ = _
        rw [show 8 * (m - k) = 8 * (m - (k + 1)) + 8 by omega, Nat.pow_add, ← Nat.div_div_eq_div_mul]
      have hVl : v / 2 ^ (8 * (m - (k + 1))) < 18446744073709551616 := Nat.lt_of_le_of_lt (Nat.div_le_self _ _) hv
      generalize v / 2 ^ (8 * (m - (k + 1))) = V at *
      obtain ⟨d, hd⟩ : ∃ d, d = UInt8.ofNat (V % 256) := ⟨_, rfl⟩
      have hdv : ((V : Int) % 256) = (d.toNat : Int) := by rw [hd]; simp
      rw [← hd] at HS
      clear hd
      have hcell := hown.cellAt (j := k) (by simp [beN_length]; omega)
      have hfro := hown.free k
      generalize ((List.replicate (k + 1) (0 : UInt8) ++ (beN v m).drop (k + 1)).getD k 0).toNat = old at *
      have HO := Lib.hid hown
      have hkm : k < m := by omega
      have HSET := Lib.hid (hown.set k d)
      clear hown
      go_wp2
      go_roundw
      case rel => exact ⟨k, by omega, rfl, by rw [HV.out]; simp, by rw [← HS.out]; exact HSET.out, hbr.setCell (Nat.le_refl _) _⟩
      case measure => simp [intOf] <;> omega
    · obtain rfl : k = 0 := by omega
      have HO : Hid (OwnB w.heap.size wr (.slice (some ⟨w.heap.size, 0, none⟩) m m) (beN v m)) := by show OwnB _ _ _ _; simpa using hown
      clear hown
      go_wp2
      go_ret2
      refine ⟨_, ?_, HO.out, hbr⟩
      have e : ((v : Int) / 2 ^ (8 * m) == 0) = decide (v / 2 ^ (8 * m) = 0) := by
        rw [show ((v : Int) / 2 ^ (8 * m)) = ((v / 2 ^ (8 * m) : Nat) : Int) by simp]
        rw [Bool.eq_iff_iff, beq_iff_eq, decide_eq_true_eq]; omega
      rw [← e]
      rfl
end Go.Proofs.Ythicaomghefedaa
