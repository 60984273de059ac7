/- Walks of layer 2: varint.Put, Len, spend, the document's Form and pow; one byte taken. -/
import Derived.Test.YtammicdgpdnihaaOctetMath
import Derived.Test.YtammicdgpdnihaaVarintMath
namespace Go.Proofs.Ytammicdgpdnihaa
open Go.RowKit

theorem fitsN_one {d : Nat} (h : d < 256) : fitsN 1 d = true := decide_eq_true ⟨by omega, by omega, by simpa using h⟩
theorem beN_one (d : Nat) : beN d (Int.toNat 1) = [UInt8.ofNat (d % 256)] := by simp [beN]

/-- Num(1, d) of a byte. -/
theorem WNum1_any (base : Nat) (p : Nat) (x : Value) (l : List UInt8) (d : Nat) (w : World) (h : Wr base w p x l) (hlen : l.length ≤ 100000000) (hd : d < 256) :
    Calls Try.prog 45 #[.pointer (some ⟨p, 0, none⟩), .int .i64 1, .int .u64 (d : Int)] w fun e w' =>
      e = .returned (.bool true) ∧ ∃ x', Wr base w' p x' (l ++ [UInt8.ofNat d]) ∧ Kept (WFoot p x) w w' ∧ Near w x x' := by
  refine (WNum_any base p x l 1 d w h hlen (by omega) (by omega) (by omega)).mono ?_
  rintro e w' ⟨rfl, x', h1, h2, h3⟩
  rw [fitsN_one hd, if_pos rfl, beN_one, Nat.mod_eq_of_lt hd] at h1
  exact ⟨by rw [fitsN_one hd], x', h1, h2, h3⟩

set_option maxRecDepth 100000 in
theorem Put_any (base : Nat) (p : Nat) (x : Value) (l : List UInt8) (v : Nat) (w : World) (h : Wr base w p x l) (hlen : l.length + 20 ≤ 100000000) (hv : v < 18446744073709551616) :
    Calls Try.prog 46 #[.pointer (some ⟨p, 0, none⟩), .int .u64 (v : Int)] w fun e w' =>
      e = .returned (.tuple #[]) ∧ ∃ x', Wr base w' p x' (l ++ formV v) ∧ Kept (WFoot p x) w w' ∧ Near w x x' := by
  have H := Lib.hid h
  have HV := Lib.hid (formV_le hv)
  clear h
  go_enter Try.func46, Try.ntmps46
  go_wp2
  go_loopw [1] (fun t wr => ∃ (u : Nat) (pre : List UInt8) (x' : Value), t = .int .u64 (u : Int) ∧ u < 18446744073709551616 ∧ Hid (formV v = pre ++ formV u) ∧ Wr base wr p x' (l ++ pre) ∧ Kept (WFoot p x) w wr ∧ Near w x x') (fun t _ => (intOf t).toNat)
  case atStart => exact ⟨v, [], x, rfl, hv, rfl, by simpa using H.out, Kept.refl _ _, Near.refl _ _⟩
  case round =>
    obtain ⟨u, pre, x', rfl, hu, HF, hw, hkp, hnr⟩ := hrel
    have hpre : (l ++ pre).length ≤ 100000000 := by
      have h1 := HV.out
      have h2 := congrArg List.length HF.out
      simp only [List.length_append] at h2 ⊢; omega
    have HW := Lib.hid hw
    have HP := Lib.hid hpre
    clear hw hpre
    by_cases hge : 128 ≤ u
    · obtain ⟨d, hd⟩ : ∃ d, d = u % 128 + 128 := ⟨_, rfl⟩
      obtain ⟨q, hq⟩ : ∃ q, q = u / 128 := ⟨_, rfl⟩
      have hde : (u : Int) % 128 + 128 = (d : Int) := by omega
      have hqe : (u : Int) / 128 = (q : Int) := by omega
      have hdl : d < 256 := by omega
      have hql : q < u := by omega
      have HF2 : Hid (formV u = UInt8.ofNat d :: formV q) := by show _ = _; rw [hd, hq]; exact formV_ge hge
      clear hd hq
      go_wp2_with fail
      refine (WNum1_any base p x' (l ++ pre) d _ HW.out HP.out hdl).mono ?_
      rintro e w2 ⟨rfl, x2, hW2, hK2, hN2⟩
      have HR := Lib.hid (And.intro hW2 (And.intro hK2 hN2))
      clear hW2 hK2 hN2
      go_wp2
      go_roundw
      case rel => exact ⟨q, pre ++ [UInt8.ofNat d], x2, rfl, by omega, by show _ = _; rw [HF.out, HF2.out]; simp, by rw [← List.append_assoc]; exact HR.out.1, Wr.near hkp hnr HR.out.2.1, hnr.trans HR.out.2.2 hkp.size⟩
      case measure => simp [intOf] <;> omega
    · have HF2 : Hid (formV u = [UInt8.ofNat u]) := formV_lt (by omega)
      go_wp2_with fail
      refine (WNum1_any base p x' (l ++ pre) u _ HW.out HP.out (by omega)).mono ?_
      rintro e w2 ⟨rfl, x2, hW2, hK2, hN2⟩
      have HR := Lib.hid (And.intro hW2 (And.intro hK2 hN2))
      clear hW2 hK2 hN2
      go_wp2
      refine bodyPost_end (results_none rfl _ _ _) rfl ?_
      exact ⟨rfl, x2, by rw [HF.out, HF2.out, ← List.append_assoc]; exact HR.out.1, Wr.near hkp hnr HR.out.2.1, hnr.trans HR.out.2.2 hkp.size⟩

set_option maxRecDepth 100000 in
theorem VLen_any (v : Nat) (w : World) (hv : v < 18446744073709551616) :
    Calls Try.prog 50 #[.int .u64 (v : Int)] w fun e w' => e = .returned (.int .i64 ((formV v).length : Nat)) ∧ w = w' := by
  have HV := Lib.hid (formV_le hv)
  go_enter Try.func50, Try.ntmps50
  go_wp2
  go_loop [0, 3] (fun t n => ∃ u k : Nat, t = .int .u64 (u : Int) ∧ u < 18446744073709551616 ∧ n = .int .i64 (k : Int) ∧ k ≤ 20 ∧ Hid ((formV v).length + 1 = k + (formV u).length)) (fun t _ => (intOf t).toNat)
  case atStart => exact ⟨v, 1, rfl, hv, rfl, by omega, by show _ = _; omega⟩
  case round =>
    obtain ⟨u, k, rfl, hu, rfl, hk, HF⟩ := hrel
    have hk2 : k ≤ 11 := by have h1 := HV.out; have h2 := HF.out; omega
    by_cases hge : 128 ≤ u
    · obtain ⟨q, hq⟩ : ∃ q, q = u / 128 := ⟨_, rfl⟩
      have hqe : (u : Int) / 128 = (q : Int) := by omega
      have hql : q < u := by omega
      have HF2 : Hid ((formV u).length = (formV q).length + 1) := by show _ = _; rw [hq, formV_ge hge]; simp
      clear hq
      go_wp2
      go_round
      case rel => exact ⟨q, k + 1, rfl, by omega, by go_num, by omega, by show _ = _; have h1 := HF.out; have h2 := HF2.out; omega⟩
      case measure => simp [intOf] <;> omega
    · have HF2 : Hid ((formV v).length = k) := by show _ = _; have h1 := HF.out; rw [formV_lt (v := u) (by omega)] at h1; simp at h1; omega
      go_wp2
      go_ret
      exact ⟨ret_int (by rw [HF2.out]), rfl⟩

set_option maxRecDepth 100000 in
theorem Form_any (v : Nat) (w : World) (hv : v < 18446744073709551616) :
    Calls Try.prog 37 #[.int .u64 (v : Int)] w fun e w' => ∃ x, e = .returned x ∧ OwnB w.heap.size w' x (formV v) ∧ Below w.heap.size w w' := by
  have HV := Lib.hid (formV_le hv)
  go_enter Try.func37, Try.ntmps37
  go_wp2
  go_loopw [0, 3] (fun t o wr => ∃ (u : Nat) (pre : List UInt8), t = .int .u64 (u : Int) ∧ u < 18446744073709551616 ∧ Hid (formV v = pre ++ formV u) ∧ OwnB w.heap.size wr o pre ∧ Below w.heap.size w wr) (fun t _ _ => (intOf t).toNat)
  case atStart => exact ⟨v, [], rfl, hv, rfl, OwnB.start _ _, Below.refl _ _⟩
  case round =>
    obtain ⟨u, pre, rfl, hu, HF, hown, hbel⟩ := hrel
    have hpre : pre.length + 1 ≤ 140737488355328 := by
      have h1 := HV.out
      have h2 := congrArg List.length HF.out
      simp only [List.length_append] at h2; omega
    obtain ⟨a4, c4, n4, hv4, -, -, -, -⟩ := hown.bsn
    subst hv4
    have HO := Lib.hid hown
    have HP := Lib.hid hpre
    have hbase := hbel.size
    clear hown hpre
    by_cases hge : 128 ≤ u
    · obtain ⟨d, hd⟩ : ∃ d, d = UInt8.ofNat (u % 128 + 128) := ⟨_, rfl⟩
      obtain ⟨q, hq⟩ : ∃ q, q = u / 128 := ⟨_, rfl⟩
      have hde : (u : Int) % 128 + 128 = (d.toNat : Int) := by rw [hd, byte_of _ (by omega)]; omega
      have hdl := d.toNat_lt
      have hqe : (u : Int) / 128 = (q : Int) := by omega
      have hql : q < u := by omega
      have HF2 : Hid (formV u = d :: formV q) := by show _ = _; rw [hd, hq]; exact formV_ge hge
      clear hd hq
      go_wp2_with (at_builtin; refine wpList_append_u8_at rfl (.tmp 6) (.tmp 11) rfl w.heap.size (.slice a4 n4 c4) pre rfl HO.out (d.toNat : Int) d rfl rfl HP.out hbase ?_; intro v2 w2 hown2 hg2 hnear2)
      have hbel2 := hbel.trans (HO.out.belowOf hg2 hbase)
      go_roundw
      case rel => exact ⟨q, pre ++ [d], rfl, by omega, by show _ = _; rw [HF.out, HF2.out]; simp, hown2, hbel2⟩
      case measure => simp [intOf] <;> omega
    · obtain ⟨d, hd⟩ : ∃ d, d = UInt8.ofNat u := ⟨_, rfl⟩
      have hde : (u : Int) % 256 = (d.toNat : Int) := by rw [hd, byte_of _ (by omega)]; omega
      have hde2 : (u : Int) = (d.toNat : Int) := by rw [hd, byte_of _ (by omega)]
      have HF2 : Hid (formV u = [d]) := by show _ = _; rw [hd]; exact formV_lt (by omega)
      have HD2 := Lib.hid hde2
      clear hd hde2
      go_wp2_with (at_builtin; refine wpList_append_u8_at rfl (.tmp 15) (.tmp 18) rfl w.heap.size (.slice a4 n4 c4) pre rfl HO.out (u : Int) d HD2.out rfl HP.out hbase ?_; intro v2 w2 hown2 hg2 hnear2; obtain ⟨a5, c5, n5, hv5, -, -, -, -⟩ := hown2.bsn; subst hv5)
      go_ret
      exact ⟨_, rfl, by rw [HF.out, HF2.out]; exact hown2, hbel.trans (HO.out.belowOf hg2 hbase)⟩

set_option maxRecDepth 100000 in
theorem pow_any (n : Nat) (w : World) (hn : n ≤ 9) :
    Calls Try.prog 58 #[.int .i64 (n : Int)] w fun e w' => e = .returned (.int .u64 ((128 ^ n : Nat) : Int)) ∧ w = w' := by
  go_enter Try.func58, Try.ntmps58
  go_wp2
  go_loop [3, 4] (fun o i => ∃ k : Nat, k ≤ n ∧ i = .int .i64 (k : Int) ∧ o = .int .u64 ((128 ^ k : Nat) : Int)) (fun _ i => n - (intOf i).toNat)
  case atStart => exact ⟨0, Nat.zero_le _, rfl, rfl⟩
  case round =>
    obtain ⟨k, hk, rfl, rfl⟩ := hrel
    have hp1 : 1 ≤ 128 ^ k := Nat.pow_pos (by decide)
    by_cases hlt : k < n
    · have hp : 128 ^ k ≤ 128 ^ 8 := Nat.pow_le_pow_right (by decide) (by omega)
      have HS : Hid (128 ^ (k + 1) = 128 ^ k * 128) := Nat.pow_succ _ _
      obtain ⟨P, hP⟩ : ∃ P, P = 128 ^ k := ⟨_, rfl⟩
      rw [← hP] at hp hp1 HS ⊢
      clear hP
      go_wp2
      go_round
      case rel => exact ⟨k + 1, by omega, by go_num, by rw [HS.out]; go_num⟩
      case measure => simp [intOf] <;> omega
    · obtain rfl : k = n := by omega
      obtain ⟨P, hP⟩ : ∃ P, P = 128 ^ k := ⟨_, rfl⟩
      have HP := Lib.hid hP
      rw [← hP]
      clear hP
      go_wp2
      go_ret
      exact ⟨ret_int (by rw [HP.out]; simp), rfl⟩
end Go.Proofs.Ytammicdgpdnihaa
