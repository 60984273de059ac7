/- Walks of layer 2: varint.Take, and the document's Front. -/
import Derived.Test.YtammicdgpdnihaaVarint
import Derived.WalkMore
namespace Go.Proofs.Ytammicdgpdnihaa
open Go.RowKit

theorem RNum1_some {p g : Nat} {l : List UInt8} {i : Nat} (w : World) (h : Rd w p g l i false) (hi : i < l.length) :
    Calls Try.prog 52 #[.pointer (some ⟨p, 0, none⟩), .int .i64 1] w fun e w' =>
      e = .returned (.int .u64 (((l.getD i 0).toNat : Nat) : Int)) ∧ Rd w' p g l (i + 1) false ∧ Kept (· = p) w w' := by
  have ha : askN 1 = 1 := if_neg (by omega)
  have hh : hasN l i false 1 = true := by unfold hasN; rw [decide_eq_true (by omega)]; rfl
  refine (RNum_any 1 w h (by omega) (by omega)).mono ?_
  rintro e w' ⟨rfl, hR, hK⟩
  rw [ha] at hR ⊢
  have hn : nextN l i false 1 = i + 1 := by unfold nextN; rw [hh]; rfl
  have ht : takenN l i false 1 = [l.getD i 0] := by
    unfold takenN; rw [hh, if_pos rfl, List.drop_eq_getElem_cons hi, show l.getD i 0 = l[i] by simp [List.getD, hi]]; rfl
  rw [hn, hh] at hR
  exact ⟨by rw [ht]; simp [beV], hR, hK⟩
theorem RNum1_none {p g : Nat} {l : List UInt8} {i : Nat} (w : World) (h : Rd w p g l i false) (hi : l.length ≤ i) :
    Calls Try.prog 52 #[.pointer (some ⟨p, 0, none⟩), .int .i64 1] w fun e w' =>
      e = .returned (.int .u64 0) ∧ Rd w' p g l i true ∧ Kept (· = p) w w' := by
  have ha : askN 1 = 1 := if_neg (by omega)
  have hh : hasN l i false 1 = false := by unfold hasN; rw [decide_eq_false (by omega)]; rfl
  refine (RNum_any 1 w h (by omega) (by omega)).mono ?_
  rintro e w' ⟨rfl, hR, hK⟩
  rw [ha] at hR ⊢
  have hn : nextN l i false 1 = i := by unfold nextN; rw [hh]; rfl
  have ht : takenN l i false 1 = [] := by unfold takenN; rw [hh]; rfl
  rw [hn, hh] at hR
  exact ⟨by rw [ht]; rfl, hR, hK⟩

theorem spend_any {p g : Nat} {l : List UInt8} {i : Nat} {s : Bool} (w : World) (h : Rd w p g l i s) :
    Calls Try.prog 60 #[.pointer (some ⟨p, 0, none⟩)] w fun e w' => e = .returned (.int .u64 0) ∧ Rd w' p g l i true ∧ Kept (· = p) w w' := by
  have H := Lib.hid h
  have hh : hasN l i s (-1) = false := by unfold hasN; rw [decide_eq_false (by omega)]; simp
  have hn : nextN l i s (-1) = i := by unfold nextN; rw [hh]; rfl
  have HN := Lib.hid (And.intro hh hn)
  clear h hh hn
  go_enter Try.func60, Try.ntmps60
  go_wp2_with fail
  refine (RTake_any (-1) _ H.out (by omega) (by omega)).mono ?_
  rintro e w1 ⟨v, rfl, hown, hR, hK⟩
  rw [HN.out.1, HN.out.2] at hR
  have HF : Hid (Rd w1 p g l i true ∧ Kept (· = p) w w1) := And.intro hR hK
  clear hown hR hK
  go_wp2
  go_ret
  exact ⟨rfl, HF.out.1, HF.out.2⟩

/-- What Take takes. -/
def takeR (L : List UInt8) (i most : Nat) : Option (Nat × Nat) := match frontV (L.drop i) with
  | some (v, k) => if v ≤ most then some (v, k) else none
  | none => none
def TakeP (L : List UInt8) (p g i most : Nat) (e : Ending) (w' : World) : Prop :=
  (∃ v k, takeR L i most = some (v, k) ∧ e = .returned (.int .u64 ((v : Nat) : Int)) ∧ Rd w' p g L (i + k) false) ∨ (takeR L i most = none ∧ e = .returned (.int .u64 0) ∧ ∃ j, Rd w' p g L j true)
theorem takeR_none {L : List UInt8} {i most : Nat} (h : frontV (L.drop i) = none) : takeR L i most = none := by unfold takeR; rw [h]
theorem takeR_some {L : List UInt8} {i most v k : Nat} (h : frontV (L.drop i) = some (v, k)) (hv : v ≤ most) : takeR L i most = some (v, k) := by unfold takeR; rw [h]; exact if_pos hv
theorem takeR_more {L : List UInt8} {i most v k : Nat} (h : frontV (L.drop i) = some (v, k)) (hv : most < v) : takeR L i most = none := by unfold takeR; rw [h]; exact if_neg (by omega)

theorem or_take (V d k : Nat) (hV : V < 128 ^ k) (hk : k ≤ 9) (hd : d < 128) (h9 : k = 9 → d ≤ 1) : bits BinOp.or IntKind.u64 (V : Int) (IntKind.u64.wrap ((d : Int) * 2 ^ (7 * (k : Int)).toNat)) = ((V + d * 128 ^ k : Nat) : Int) := by
  have hp : 2 ^ (7 * k) = 128 ^ k := by rw [Nat.pow_mul]
  have hs : V + d * 128 ^ k < 18446744073709551616 := by
    by_cases h : k = 9
    · subst h
      have h1 : d * 128 ^ 9 ≤ 1 * 128 ^ 9 := Nat.mul_le_mul_right _ (h9 rfl)
      omega
    · have h1 := pow_step k d V hd hV
      have h2 : 128 ^ (k + 1) ≤ 128 ^ 9 := Nat.pow_le_pow_right (by decide) (by omega)
      omega
  have e : ((d : Int) * 2 ^ (7 * (k : Int)).toNat) = ((d * 128 ^ k : Nat) : Int) := by
    rw [show (7 * (k : Int)).toNat = 7 * k by omega, ← hp]; push_cast; rfl
  rw [e, IntKind.wrap_u64, show ((d * 128 ^ k : Nat) : Int) % 18446744073709551616 = ((d * 128 ^ k : Nat) : Int) from by omega, u64_or_nat _ _ (by omega) (by omega)]
  congr 1
  rw [← hp] at hV ⊢
  rw [Nat.or_comm, Nat.mul_comm d, ← Nat.two_pow_add_eq_or_of_lt hV]; omega

set_option maxRecDepth 100000 in
set_option maxHeartbeats 2000000 in
theorem Take_any {p g : Nat} {L : List UInt8} {i : Nat} (most : Nat) (w : World) (h : Rd w p g L i false) :
    Calls Try.prog 53 #[.pointer (some ⟨p, 0, none⟩), .int .u64 (most : Int)] w fun e w' => TakeP L p g i most e w' ∧ Kept (· = p) w w' := by
  have H := Lib.hid h
  clear h
  go_enter Try.func53, Try.ntmps53
  go_wp2
  go_step3
  go_wp2
  go_step3
  go_wp2
  go_loopw [5, 6, 7, 8, 9] (fun v en _ _ t wr => ∃ k V : Nat, k ≤ 10 ∧ t = .int .i64 (k : Int) ∧ v = .int .u64 (V : Int) ∧ en = .bool false ∧ V < 128 ^ k ∧ Rd wr p g L (i + k) false ∧ Kept (· = p) w wr ∧ Hid (frontV (L.drop i) = frontGo (L.drop (i + k)) k V)) (fun _ _ _ _ t _ => 10 - (intOf t).toNat)
  case atStart => exact ⟨0, 0, by omega, rfl, rfl, rfl, by omega, H.out, Kept.refl _ _, rfl⟩
  case round =>
    obtain ⟨k, V, hk, rfl, rfl, rfl, hV, hR, hK, HF⟩ := hrel
    have HR := Lib.hid hR
    have HK := Lib.hid hK
    have hle := hR.le
    have HVV := Lib.hid hV
    clear hR hK hV
    by_cases hlt : k < 10
    · by_cases hend : i + k < L.length
      · obtain ⟨c, hc⟩ : ∃ c, c = L.getD (i + k) 0 := ⟨_, rfl⟩
        have HD : Hid (L.drop (i + k) = c :: L.drop (i + k + 1)) := by
          show _ = _
          rw [List.drop_eq_getElem_cons hend, hc]; simp [List.getD, hend]
        have HC := Lib.hid hc
        clear hc
        obtain ⟨d, hd⟩ : ∃ d, d = c.toNat := ⟨_, rfl⟩
        have hdl : d < 256 := by rw [hd]; exact c.toNat_lt
        have HDD := Lib.hid hd
        clear hd
        go_wp2_with fail
        refine (RNum1_some _ HR.out hend).mono ?_
        rintro e w2 ⟨rfl, hR2, hK2⟩
        rw [← HC.out, ← HDD.out]
        have HR2 := Lib.hid hR2
        have HK2 := Lib.hid (HK.out.trans hK2 (fun i hi => .inl hi))
        clear hR2 hK2
        go_wp2_with fail
        refine (RSpent_any _ HR2.out).mono ?_
        rintro e w3 ⟨rfl, rfl⟩
        have HBAD : Hid ((k = 9 ∧ 1 < d) ∨ (0 < k ∧ d = 0) → takeR L i most = none) := fun h => by
          rw [HDD.out] at h
          exact takeR_none (by rw [HF.out, HD.out]; exact frontGo_bad h)
        by_cases hbad : (k = 9 ∧ 1 < d) ∨ (0 < k ∧ d = 0)
        · have HN := Lib.hid (HBAD.out hbad)
          clear hdl
          have fin : ∀ w3 : World, Calls Try.prog 60 #[.pointer (some ⟨p, 0, none⟩)] w2 fun e w' => e = .returned (.int .u64 0) ∧ Hid (TakeP L p g i most (.returned (.int .u64 0)) w' ∧ Kept (· = p) w w') := fun _ => by
            refine (spend_any _ HR2.out).mono ?_
            rintro e w3 ⟨rfl, hR3, hK3⟩
            exact ⟨rfl, .inr ⟨HN.out, rfl, _, hR3⟩, HK2.out.trans hK3 (fun i hi => .inl hi)⟩
          have FIN := Lib.hid fin
          clear fin
          rcases hbad with ⟨rfl, hd1⟩ | ⟨hk0, rfl⟩
          · have hd0 : ((d : Int) == 0) = false := by rw [beq_eq_false_iff_ne]; omega
            go_wp2_with fail
            refine (FIN.out w2).mono ?_
            rintro e w3 ⟨rfl, HFF⟩
            go_wp2
            (try rw [Exit.noGoto_ret]); go_ret
            exact HFF.out
          · by_cases h9 : k = 9
            · subst h9
              go_wp2_with fail
              refine (FIN.out w2).mono ?_
              rintro e w3 ⟨rfl, HFF⟩
              go_wp2
              (try rw [Exit.noGoto_ret]); go_ret
              exact HFF.out
            · have h9' : ((k : Int) == 9) = false := by rw [beq_eq_false_iff_ne]; omega
              go_wp2_with fail
              refine (FIN.out w2).mono ?_
              rintro e w3 ⟨rfl, HFF⟩
              go_wp2
              (try rw [Exit.noGoto_ret]); go_ret
              exact HFF.out
        · have hgood : (k = 9 → d = 1) ∧ (0 < k → 0 < d) := ⟨fun h => by omega, fun h => by omega⟩
          obtain ⟨W, hW⟩ : ∃ W, W = V + d % 128 * 128 ^ k := ⟨_, rfl⟩
          have hor : bits BinOp.or IntKind.u64 (V : Int) (IntKind.u64.wrap ((d : Int) % 128 * 2 ^ (7 * k))) = (W : Int) := by
            have := or_take V (d % 128) k HVV.out (by omega) (by omega) (fun h => by have := hgood.1 h; omega)
            rw [show (7 * (k : Int)).toNat = 7 * k by omega] at this
            rw [hW, ← this]
            simp
          have HW := Lib.hid hW
          clear hW
          have HEND : Hid (d < 128 → frontV (L.drop i) = some (W, k + 1)) := fun h => by
            rw [HDD.out] at h hbad
            rw [HF.out, HD.out, HW.out, HDD.out]; exact frontGo_end hlt hbad h
          have HON : Hid (¬ d < 128 → frontV (L.drop i) = frontGo (L.drop (i + (k + 1))) (k + 1) W ∧ W < 128 ^ (k + 1)) := fun h => by
            refine ⟨?_, by rw [HW.out]; exact pow_step k _ V (by omega) HVV.out⟩
            rw [HDD.out] at h hbad
            rw [HF.out, HD.out, HW.out, HDD.out]; exact frontGo_on hlt hbad h
          have h1 := hgood.1
          have h2 := hgood.2
          clear hgood hbad
          by_cases h9 : k = 9
          · have hd1 := h1 h9
            have h9' : ((k : Int) == 9) = true := by rw [beq_iff_eq]; omega
            have hd0' : ((d : Int) == 0) = false := by rw [beq_eq_false_iff_ne]; omega
            have hdle : d ≤ 1 := by omega
            have hdge : 1 ≤ d := by omega
            have hk0 : 0 < k := by omega
            have hd128 : d < 128 := by omega
            clear hd1 h1 h2 h9
            by_cases hmW : most < W
            · have HN : Hid (takeR L i most = none) := takeR_more (HEND.out hd128) hmW
              go_wp2_with fail
              refine (spend_any _ HR2.out).mono ?_
              rintro e w3 ⟨rfl, hR3, hK3⟩
              have HFF : Hid (TakeP L p g i most (.returned (.int .u64 0)) w3 ∧ Kept (· = p) w w3) := ⟨.inr ⟨HN.out, rfl, _, hR3⟩, HK2.out.trans hK3 (fun i hi => .inl hi)⟩
              clear hR3 hK3
              go_wp2
              (try rw [Exit.noGoto_ret]); go_ret
              exact HFF.out
            · have HN : Hid (takeR L i most = some (W, k + 1)) := takeR_some (HEND.out hd128) (by omega)
              go_wp2
              (try rw [Exit.noGoto_ret]); go_ret
              exact ⟨.inl ⟨W, k + 1, HN.out, rfl, HR2.out⟩, HK2.out⟩
          · have h9' : ((k : Int) == 9) = false := by rw [beq_eq_false_iff_ne]; omega
            clear h1
            by_cases hk0 : 0 < k
            · have hd0 := h2 hk0
              have hd0' : ((d : Int) == 0) = false := by rw [beq_eq_false_iff_ne]; omega
              clear h2
              by_cases hd128 : d < 128
              · by_cases hmW : most < W
                · have HN : Hid (takeR L i most = none) := takeR_more (HEND.out hd128) hmW
                  go_wp2_with fail
                  refine (spend_any _ HR2.out).mono ?_
                  rintro e w3 ⟨rfl, hR3, hK3⟩
                  have HFF : Hid (TakeP L p g i most (.returned (.int .u64 0)) w3 ∧ Kept (· = p) w w3) := ⟨.inr ⟨HN.out, rfl, _, hR3⟩, HK2.out.trans hK3 (fun i hi => .inl hi)⟩
                  clear hR3 hK3
                  go_wp2
                  (try rw [Exit.noGoto_ret]); go_ret
                  exact HFF.out
                · have HN : Hid (takeR L i most = some (W, k + 1)) := takeR_some (HEND.out hd128) (by omega)
                  go_wp2
                  (try rw [Exit.noGoto_ret]); go_ret
                  exact ⟨.inl ⟨W, k + 1, HN.out, rfl, HR2.out⟩, HK2.out⟩
              · have HO := Lib.hid (HON.out hd128)
                go_wp2
                go_roundw
                case rel => exact ⟨k + 1, W, by omega, by go_num, rfl, rfl, HO.out.2, HR2.out, HK2.out, HO.out.1⟩
                case measure => simp [intOf] <;> omega
            · clear h2
              have hk0' : decide (0 < k) = false := decide_eq_false hk0
              by_cases hd128 : d < 128
              · by_cases hmW : most < W
                · have HN : Hid (takeR L i most = none) := takeR_more (HEND.out hd128) hmW
                  go_wp2_with fail
                  refine (spend_any _ HR2.out).mono ?_
                  rintro e w3 ⟨rfl, hR3, hK3⟩
                  have HFF : Hid (TakeP L p g i most (.returned (.int .u64 0)) w3 ∧ Kept (· = p) w w3) := ⟨.inr ⟨HN.out, rfl, _, hR3⟩, HK2.out.trans hK3 (fun i hi => .inl hi)⟩
                  clear hR3 hK3
                  go_wp2
                  (try rw [Exit.noGoto_ret]); go_ret
                  exact HFF.out
                · have HN : Hid (takeR L i most = some (W, k + 1)) := takeR_some (HEND.out hd128) (by omega)
                  go_wp2
                  (try rw [Exit.noGoto_ret]); go_ret
                  exact ⟨.inl ⟨W, k + 1, HN.out, rfl, HR2.out⟩, HK2.out⟩
              · have HO := Lib.hid (HON.out hd128)
                go_wp2
                go_roundw
                case rel => exact ⟨k + 1, W, by omega, by go_num, rfl, rfl, HO.out.2, HR2.out, HK2.out, HO.out.1⟩
                case measure => simp [intOf] <;> omega
      · go_wp2_with fail
        refine (RNum1_none _ HR.out (by omega)).mono ?_
        rintro e w2 ⟨rfl, hR2, hK2⟩
        have HR2 := Lib.hid hR2
        have HK2 := Lib.hid (HK.out.trans hK2 (fun i hi => .inl hi))
        clear hR2 hK2
        go_wp2_with fail
        refine (RSpent_any _ HR2.out).mono ?_
        rintro e w3 ⟨rfl, rfl⟩
        go_wp2
        (try rw [Exit.noGoto_ret]); go_ret
        exact ⟨.inr ⟨takeR_none (by rw [HF.out, List.drop_eq_nil_of_le (by omega)]; rfl), rfl, _, HR2.out⟩, HK2.out⟩
    · obtain rfl : k = 10 := by omega
      have HN : Hid (frontV (L.drop i) = none) := by show _ = _; rw [HF.out]; exact frontGo_late _ _ _ (Nat.le_refl _)
      go_wp2_with fail
      refine (spend_any _ HR.out).mono ?_
      rintro e w2 ⟨rfl, hR2, hK2⟩
      have HR2 := Lib.hid hR2
      have HK2 := Lib.hid (HK.out.trans hK2 (fun i hi => .inl hi))
      clear hR2 hK2
      go_wp2
      (try rw [Exit.noGoto_ret]); go_ret
      exact ⟨.inr ⟨takeR_none HN.out, rfl, _, HR2.out⟩, HK2.out⟩

def frontD (L : List UInt8) : Nat × Nat := (frontV L).getD (0, 0)
theorem frontD_none {L : List UInt8} (h : frontV L = none) : frontD L = (0, 0) := by unfold frontD; rw [h]; rfl
theorem frontD_some {L : List UInt8} {x : Nat × Nat} (h : frontV L = some x) : frontD L = x := by unfold frontD; rw [h]; rfl

set_option maxRecDepth 100000 in
set_option maxHeartbeats 2000000 in
theorem Front_any (a : Option Addr) (L : List UInt8) (n cap : Nat) (w : World) (hn : n = L.length) (hb : Bs w a cap L) :
    Calls Try.prog 43 #[.slice a n cap] w fun e w' => e = .returned (.tuple #[.int .u64 (((frontD L).1 : Nat) : Int), .int .i64 (((frontD L).2 : Nat) : Int)]) ∧ w = w' := by
  have hf := hb.fits hn
  have HN := Lib.hid hn
  have HB := Lib.hid hb
  clear hb hn
  go_enter Try.func43, Try.ntmps43
  go_wp2
  go_loop [4, 5, 6] (fun v i _ => ∃ k V : Nat, k ≤ n ∧ k ≤ 10 ∧ i = .int .i64 (k : Int) ∧ v = .int .u64 (V : Int) ∧ V < 128 ^ k ∧ Hid (frontV L = frontGo (L.drop k) k V)) (fun _ i _ => 10 - (intOf i).toNat)
  case atStart => exact ⟨0, 0, Nat.zero_le _, by omega, rfl, rfl, by omega, rfl⟩
  case round =>
    obtain ⟨k, V, hkn, hk, rfl, rfl, hV, HF⟩ := hrel
    have HVV := Lib.hid hV
    clear hV
    by_cases hlt : k < n
    · by_cases h10 : k < 10
      · obtain ⟨b, off, rfl, hcell, hbl⟩ := HB.out.at (k := k) (by have h1 := HN.out; omega)
        have HD : Hid (L.drop k = L.getD k 0 :: L.drop (k + 1)) := by
          show _ = _
          have h1 := HN.out
          rw [List.drop_eq_getElem_cons (by omega)]; simp [List.getD, show k < L.length by omega]
        generalize hc : L.getD k 0 = c at *
        obtain ⟨d, hd⟩ : ∃ d, d = c.toNat := ⟨_, rfl⟩
        have hdl : d < 256 := by rw [hd]; exact c.toNat_lt
        rw [← hd] at hcell
        have HDD := Lib.hid hd
        clear hd hc
        have HBAD : Hid ((k = 9 ∧ 1 < d) ∨ (0 < k ∧ d = 0) → frontD L = (0, 0)) := fun h => by
          rw [HDD.out] at h
          exact frontD_none (by rw [HF.out, HD.out]; exact frontGo_bad h)
        by_cases hbad : (k = 9 ∧ 1 < d) ∨ (0 < k ∧ d = 0)
        · have HX := Lib.hid (HBAD.out hbad)
          rcases hbad with ⟨rfl, hd1⟩ | ⟨hk0, rfl⟩
          · have hd0 : ((d : Int) == 0) = false := by rw [beq_eq_false_iff_ne]; omega
            go_wp2
            go_ret2
            exact ⟨by rw [HX.out]; rfl, rfl⟩
          · by_cases h9 : k = 9
            · subst h9
              go_wp2
              go_ret2
              exact ⟨by rw [HX.out]; rfl, rfl⟩
            · have h9' : ((k : Int) == 9) = false := by rw [beq_eq_false_iff_ne]; omega
              go_wp2
              go_ret2
              exact ⟨by rw [HX.out]; rfl, rfl⟩
        · have hgood : (k = 9 → d ≤ 1) ∧ (0 < k → 0 < d) := ⟨fun h => by omega, fun h => by omega⟩
          obtain ⟨P, hP⟩ : ∃ P, P = 128 ^ k := ⟨_, rfl⟩
          obtain ⟨M, hM⟩ : ∃ M, M = d % 128 * P := ⟨_, rfl⟩
          have hMe : (d : Int) % 128 * (P : Int) = (M : Int) := by rw [hM]; simp
          have hWs : V + M < 18446744073709551616 := by
            rw [hM, hP]
            by_cases h : k = 9
            · subst h
              have h1 : d % 128 * 128 ^ 9 ≤ 1 * 128 ^ 9 := Nat.mul_le_mul_right _ (by have := hgood.1 rfl; omega)
              have := HVV.out
              omega
            · have h1 := pow_step k (d % 128) V (by omega) HVV.out
              have h2 : 128 ^ (k + 1) ≤ 128 ^ 9 := Nat.pow_le_pow_right (by decide) (by omega)
              omega
          have HPW := Lib.hid hP
          have HW : Hid (V + M = V + d % 128 * 128 ^ k) := by show _ = _; rw [hM, hP]
          clear hP hM
          have HEND : Hid (d < 128 → frontD L = (V + M, k + 1)) := fun h => by
            rw [HDD.out] at h hbad
            exact frontD_some (by rw [HF.out, HD.out, HW.out, HDD.out]; exact frontGo_end h10 hbad h)
          have HON : Hid (¬ d < 128 → frontV L = frontGo (L.drop (k + 1)) (k + 1) (V + M) ∧ V + M < 128 ^ (k + 1)) := fun h => by
            refine ⟨?_, by rw [HW.out]; exact pow_step k _ V (by omega) HVV.out⟩
            rw [HDD.out] at h hbad
            rw [HF.out, HD.out, HW.out, HDD.out]; exact frontGo_on h10 hbad h
          have h1 := hgood.1
          have h2 := hgood.2
          clear hgood hbad
          by_cases h9 : k = 9
          · have hd1 := h1 h9
            have h9' : ((k : Int) == 9) = true := by rw [beq_iff_eq]; omega
            have hk0 : 0 < k := by omega
            have hd0 := h2 hk0
            have hd0' : ((d : Int) == 0) = false := by rw [beq_eq_false_iff_ne]; omega
            have hd128 : d < 128 := by omega
            have HX := Lib.hid (HEND.out hd128)
            clear h1 h2 h9
            go_wp2_with fail
            refine (pow_any k _ (by omega)).mono ?_
            rintro e w2 ⟨rfl, rfl⟩
            rw [← HPW.out]
            go_wp2
            go_ret2
            exact ⟨by rw [HX.out]; simp, rfl⟩
          · have h9' : ((k : Int) == 9) = false := by rw [beq_eq_false_iff_ne]; omega
            clear h1
            by_cases hk0 : 0 < k
            · have hd0 := h2 hk0
              have hd0' : ((d : Int) == 0) = false := by rw [beq_eq_false_iff_ne]; omega
              clear h2
              by_cases hd128 : d < 128
              · have HX := Lib.hid (HEND.out hd128)
                go_wp2_with fail
                refine (pow_any k _ (by omega)).mono ?_
                rintro e w2 ⟨rfl, rfl⟩
                rw [← HPW.out]
                go_wp2
                go_ret2
                exact ⟨by rw [HX.out]; simp, rfl⟩
              · have HX := Lib.hid (HON.out hd128)
                go_wp2_with fail
                refine (pow_any k _ (by omega)).mono ?_
                rintro e w2 ⟨rfl, rfl⟩
                rw [← HPW.out]
                go_wp2
                go_round
                case rel => exact ⟨k + 1, V + M, by omega, by omega, by go_num, by go_num, HX.out.2, HX.out.1⟩
                case measure => simp [intOf] <;> omega
            · clear h2
              have hk0' : decide (0 < k) = false := decide_eq_false hk0
              by_cases hd128 : d < 128
              · have HX := Lib.hid (HEND.out hd128)
                go_wp2_with fail
                refine (pow_any k _ (by omega)).mono ?_
                rintro e w2 ⟨rfl, rfl⟩
                rw [← HPW.out]
                go_wp2
                go_ret2
                exact ⟨by rw [HX.out]; simp, rfl⟩
              · have HX := Lib.hid (HON.out hd128)
                go_wp2_with fail
                refine (pow_any k _ (by omega)).mono ?_
                rintro e w2 ⟨rfl, rfl⟩
                rw [← HPW.out]
                go_wp2
                go_round
                case rel => exact ⟨k + 1, V + M, by omega, by omega, by go_num, by go_num, HX.out.2, HX.out.1⟩
                case measure => simp [intOf] <;> omega
      · obtain rfl : k = 10 := by omega
        have HX : Hid (frontD L = (0, 0)) := frontD_none (by rw [HF.out]; exact frontGo_late _ _ _ (Nat.le_refl _))
        go_wp2
        go_ret2
        exact ⟨by rw [HX.out]; rfl, rfl⟩
    · obtain rfl : k = n := by omega
      have HX : Hid (frontD L = (0, 0)) := frontD_none (by rw [HF.out, List.drop_eq_nil_of_le (by have h1 := HN.out; omega)]; rfl)
      go_wp2
      go_ret2
      exact ⟨by rw [HX.out]; rfl, rfl⟩
end Go.Proofs.Ytammicdgpdnihaa
