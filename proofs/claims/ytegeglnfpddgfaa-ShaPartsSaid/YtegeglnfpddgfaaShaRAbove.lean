/- The walk of the document's above. -/
import Derived.Test.YtegeglnfpddgfaaShaRTimes
namespace Go.Proofs.Ytegeglnfpddgfaa
open Go.RowKit

theorem someN_true {a : List Nat} {lo : Nat} : ∀ {k j : Nat}, j < k → 0 < a.getD (lo + j) 0 → someN a lo k = true
  | k + 1, j, hj, h => by
    rw [someN]
    by_cases e : j = k
    · rw [← e, decide_eq_true h]; rfl
    · rw [someN_true (show j < k by omega) h]; simp
theorem someN_false {a : List Nat} {lo : Nat} : ∀ {k : Nat}, (∀ j, j < k → a.getD (lo + j) 0 = 0) → someN a lo k = false
  | 0, _ => rfl
  | k + 1, h => by
    rw [someN, someN_false (fun j hj => h j (by omega)), h k (by omega)]; rfl

set_option maxRecDepth 100000 in
set_option maxHeartbeats 1000000 in
theorem above_any (g : Nat) (l : List Nat) (n p z : Nat) (w : World) (hn : n = l.length) (hA : DgAt w g l) (hS : Small l) (hz : z < n) (hn9 : n ≤ 20) :
    Calls Try.prog 34 #[.slice (some ⟨g, 0, none⟩) n n, .int .u64 (p : Int), .int .i64 (z : Int)] w fun e w' => e = .returned (.bool (aboveN l p z)) ∧ w = w' := by
  have HN := Lib.hid hn
  have HA := Lib.hid hA
  have HS := Lib.hid hS
  clear hn hA hS
  go_enter Try.func34, Try.ntmps34
  go_wp2
  go_loop [7] (fun i => ∃ k : Nat, i = .int .i64 ((z : Int) + (k : Int)) ∧ k ≤ n - 1 - z ∧ ∀ j, k ≤ j → j < n - 1 - z → l.getD (z + 1 + j) 0 = 0) (fun i => (intOf i).toNat)
  case atStart => exact ⟨n - 1 - z, by congr 1; omega, Nat.le_refl _, fun j h1 h2 => by omega⟩
  case round =>
    obtain ⟨k, rfl, hk, hall⟩ := hrel
    have HALL := Lib.hid hall
    clear hall
    by_cases hk0 : 0 < k
    · obtain ⟨k, rfl⟩ : ∃ j, k = j + 1 := ⟨k - 1, by omega⟩
      obtain ⟨q, hq⟩ : ∃ q, q = z + 1 + k := ⟨_, rfl⟩
      have hqi : (z : Int) + ((k + 1 : Nat) : Int) = (q : Int) := by omega
      rw [hqi]
      have hqn : (q : Int) < (n : Int) := by omega
      have hzq : (z : Int) < (q : Int) := by omega
      have hck := HA.out.cell (j := q) (by have := HN.out; omega)
      have hxl := HS.out.at q
      have HX : Hid (l.getD (z + 1 + k) 0 = l.getD q 0) := by show _ = _; rw [hq]
      generalize l.getD q 0 = x at *
      have HQ := Lib.hid hq
      clear hq
      by_cases hx : 0 < x
      · have hxi : (0 : Int) < (x : Int) := by omega
        have HAB : Hid (aboveN l p z = true) := by
          show _ = _
          unfold aboveN
          rw [someN_true (k := l.length - 1 - z) (j := k) (by have := HN.out; omega) (by rw [HX.out]; exact hx)]; rfl
        go_wp2
        go_ret
        exact ⟨ret_bool HAB.out.symm, rfl⟩
      · have hx0 : x = 0 := by omega
        have hxi : ¬ (0 : Int) < (x : Int) := by omega
        have HX0 : Hid (l.getD (z + 1 + k) 0 = 0) := by show _ = _; rw [HX.out]; exact hx0
        clear hx0
        go_wp2
        go_round
        case rel => exact ⟨k, by congr 1; have := HQ.out; omega, by omega, fun j h1 h2 => by
          by_cases e : j = k
          · rw [e]; exact HX0.out
          · exact HALL.out j (by omega) h2⟩
        case measure => simp [intOf]; omega
    · have hk00 : k = 0 := by omega
      have HNO : Hid (someN l (z + 1) (l.length - 1 - z) = false) := someN_false fun j hj => HALL.out j (by omega) (by rw [HN.out]; exact hj)
      rw [show (Value.int IntKind.i64 ((z : Int) + (k : Int))) = Value.int IntKind.i64 (z : Int) by rw [hk00]; simp]
      clear hk00 HALL hk0 hk
      have hzn : (z : Int) < (n : Int) := by omega
      have hck := HA.out.cell (j := z) (by have := HN.out; omega)
      have hxl := HS.out.at z
      have HAB : Hid (aboveN l p z = if l.getD z 0 ≠ p then decide (p < l.getD z 0) else someN l 0 z) := by
        show _ = _
        unfold aboveN
        rw [HNO.out]; rfl
      generalize l.getD z 0 = x at *
      by_cases hxp : x = p
      · have hne : ((x : Int) != (p : Int)) = false := by rw [bne_eq_false_iff_eq]; omega
        have HAB2 : Hid (aboveN l p z = someN l 0 z) := by show _ = _; rw [HAB.out, if_neg (fun h => h hxp)]
        clear hxp HAB
        go_wp2
        go_loop [8] (fun i => ∃ k : Nat, i = .int .i64 (k : Int) ∧ k ≤ z ∧ ∀ j, j < k → l.getD j 0 = 0) (fun i => z - (intOf i).toNat)
        case atStart => exact ⟨0, rfl, Nat.zero_le _, fun j h => by omega⟩
        case round =>
          clear hck hne hxl
          obtain ⟨k, rfl, hk, hall⟩ := hrel
          have HALL := Lib.hid hall
          clear hall
          by_cases hkz : k < z
          · have hkn : (k : Int) < (n : Int) := by omega
            have hkzi : (k : Int) < (z : Int) := by omega
            have hck := HA.out.cell (j := k) (by have := HN.out; omega)
            have hxl := HS.out.at k
            have HX : Hid (l.getD k 0 = l.getD k 0) := rfl
            obtain ⟨y, hy⟩ : ∃ y, y = l.getD k 0 := ⟨_, rfl⟩
            rw [← hy] at hck hxl
            have HY := Lib.hid hy
            clear hy
            by_cases hx : 0 < y
            · have hxi : (0 : Int) < (y : Int) := by omega
              have HT : Hid (someN l 0 z = true) := someN_true (j := k) hkz (by rw [Nat.zero_add, ← HY.out]; exact hx)
              go_wp2
              go_ret
              exact ⟨ret_bool (by rw [HAB2.out, HT.out]), rfl⟩
            · have hxi : ¬ (0 : Int) < (y : Int) := by omega
              have HX0 : Hid (l.getD k 0 = 0) := by show _ = _; rw [← HY.out]; omega
              go_wp2
              go_round
              case rel => exact ⟨k + 1, by go_num, by omega, fun j h1 => by
                by_cases e : j = k
                · rw [e]; exact HX0.out
                · exact HALL.out j (by omega)⟩
              case measure => simp [intOf]; omega
          · have HT : Hid (someN l 0 z = false) := someN_false fun j hj => by rw [Nat.zero_add]; exact HALL.out j (by omega)
            have hkzi : ¬ (k : Int) < (z : Int) := by omega
            go_wp2
            go_ret
            exact ⟨ret_bool (by rw [HAB2.out, HT.out]), rfl⟩
      · have hne : ((x : Int) != (p : Int)) = true := by rw [bne_iff_ne]; omega
        have HAB2 : Hid (aboveN l p z = decide (p < x)) := by show _ = _; rw [HAB.out, if_pos hxp]
        clear hxp HAB
        go_wp2
        go_ret
        exact ⟨ret_bool (by rw [HAB2.out]), rfl⟩
end Go.Proofs.Ytegeglnfpddgfaa
