/- The walk of the law ShaParts: it returns true, and leaves what was there as it was. -/
import Derived.Test.YtegeglnfpddgfaaShaEq
import Derived.Test.YtegeglnfpddgfaaLaw4Awake
import Derived.Test.YtegeglnfpddgfaaShaRRoot
import Derived.Deep.Cut
namespace Go.Proofs.Ytegeglnfpddgfaa
open Go.RowKit

set_option maxRecDepth 100000 in
theorem Fill_neg (x : Int) (w : World) (hx : x < 0) :
    Calls Try.prog 13 #[.int .i64 x] w fun e w' => e = .returned (.slice none 0 0) ∧ w = w' := by
  go_enter Try.func13, Try.ntmps13
  go_wp2
  go_ret
  exact ⟨rfl, rfl⟩

set_option maxRecDepth 100000 in
set_option maxHeartbeats 2000000 in
theorem ShaParts_walk (x0 : Int) (s : List Nat) (h8 : Is8 s) (a2 : Option Addr) (l2 : List UInt8) (n2 c2 : Nat) (x3 : Int) (w : World)
    (hx0 : -9223372036854775808 ≤ x0 ∧ x0 ≤ 9223372036854775807) (hn2 : n2 = l2.length) (hb2 : Bs w a2 c2 l2) (hx3 : -9223372036854775808 ≤ x3 ∧ x3 ≤ 9223372036854775807) :
    Calls Try.prog 4 #[.int .i64 x0, .agg (arr s), .slice a2 n2 c2, .int .i64 x3] w fun e w' => e = .returned (.bool true) ∧ Below w.heap.size w w' := by
  have hf2 := hb2.fits hn2
  obtain ⟨hx0a, hx0b⟩ := hx0
  obtain ⟨hx3a, hx3b⟩ := hx3
  have HN2 := Lib.hid hn2
  have HB2 := Lib.hid hb2
  have H8 := Lib.hid h8
  have HL8 := Lib.hid h8.1
  have HZ8 : Hid (([0, 0, 0, 0, 0, 0, 0, 0] : List Nat).length = 8) := Lib.hid rfl
  have HE8 : Hid (begin8.length = 8) := Lib.hid rfl
  clear hn2 hb2 h8
  go_enter Try.func4, Try.ntmps4
  go_upto_region 2 with (first
    | ((with_reducible refine wpList_box_arrn (T := 29) (l := s) rfl (.tmp 1) rfl rfl ?_); intro w1 A hA hatA hb1))
  have hwA : w.heap.size ≤ A := by have := hA.out; omega
  have HB1 := Lib.hid hb1
  have HA1 : Hid (ArrAt 29 w1 A s) := hatA
  clear hb1 hA hatA
  go_cut [19] from 14 (fun c wx => c = .bool (decide (0 ≤ x0 ∧ x0 ≤ 63)) ∧ wx = w1)
  case first =>
    by_cases p1 : 0 ≤ x0
    · by_cases p2 : x0 ≤ 63
      · go_wp2_with fail
        go_meet
        case rel => exact ⟨by rw [decide_eq_true (And.intro p1 p2)], rfl⟩
      · go_wp2_with fail
        go_meet
        case rel => exact ⟨by rw [decide_eq_false (by omega)], rfl⟩
    · go_wp2_with fail
      go_meet
      case rel => exact ⟨by rw [decide_eq_false (by omega)], rfl⟩
  case rest =>
  obtain ⟨rfl, rfl⟩ := hcut
  obtain ⟨R0, hR0⟩ : ∃ R0 : Int, R0 = if 0 ≤ x0 ∧ x0 ≤ 63 then ((rootsL.getD x0.toNat 0 : Nat) : Int) else 0 := ⟨_, rfl⟩
  have HR0 := Lib.hid hR0
  clear hR0
  go_upto_if 19 with fail
  go_cut [9] from 14 (fun c wx => c = .int .u32 R0 ∧ Below wc.heap.size wc wx)
  case first =>
    by_cases p1 : 0 ≤ x0 ∧ x0 ≤ 63
    · obtain ⟨i, rfl⟩ : ∃ i : Nat, x0 = (i : Int) := ⟨x0.toNat, by omega⟩
      have HR1 : Hid (R0 = ((rootsL.getD i 0 : Nat) : Int)) := by show _ = _; rw [HR0.out, if_pos p1, Int.toNat_natCast]
      have hi64 : i < 64 := by omega
      rw [decide_eq_true p1]
      go_wp2_with fail
      refine (refRoot_any i _ hi64).mono ?_
      rintro e w3 ⟨rfl, hb3⟩
      rw [← HR1.out]
      go_wp2_with fail
      go_meet
      case rel => exact ⟨rfl, hb3⟩
    · have HR1 : Hid (R0 = 0) := by show _ = _; rw [HR0.out, if_neg p1]
      rw [decide_eq_false p1]
      go_wp2_with fail
      go_meet
      case rel => exact ⟨by rw [HR1.out], Below.refl _ _⟩
  case rest =>
  obtain ⟨rfl, hbc⟩ := hcut
  have HA2 := Lib.hid (HA1.out.below hbc)
  have HB2w := Lib.hid (HB1.out.trans (hbc.mono HB1.out.size))
  clear hbc HA1 HB1
  go_wp2_with fail
  refine (Begin_any _).mono ?_
  rintro e w3 ⟨rfl, hb3⟩
  have HB3 := Lib.hid hb3
  have HA3 := Lib.hid (HA2.out.below hb3)
  clear hb3
  go_wp2_with (first
    | ((with_reducible refine wpList_alloc8m rfl rfl ?_); intro w4 D hD hatD hb4)
    | ((with_reducible refine wpList_store_arrn (T := 29) (n := 8) info_8 rfl (.tmp 10) (.tmp 22) rfl rfl begin8 rfl HZ8.out HE8.out hatD.out ?_); intro w5 hat5 hk5; (try simp only [Act.put, List.setIfInBounds_toArray, List.set_cons_zero, List.set_cons_succ])))
  have hb35 : Below w3.heap.size w3 w5 := hb4.trans (hk5.below hb4.size (fun i hi => by have := hD.out; omega))
  have HA5 := Lib.hid (HA3.out.below hb35)
  have hb25 := HB3.out.trans (hb35.mono HB3.out.size)
  have HB5 : Hid (Below w.heap.size w w5) := HB2w.out.trans (hb25.mono HB2w.out.size)
  have HD5 : Hid (ArrAt 29 w5 D begin8) := hat5
  clear hb35 hb25 hat5 hk5 hb4 hatD hD HA3 HB3 HA2 HB2w
  have E8 : Hid (∀ (l : List Nat) (w : World), l.length = 8 → (Op.equalIn 10000 29 (.agg (arr l)) (.agg (arr l))).run Try.prog w = .ok true w) := fun l w h => eql8 w l h
  refine hStart (fun w' => Below w5.heap.size w5 w') (by kernel_rfl) ?_
  have hHeld := (Below.refl w5.heap.size w5).drew
  refine hTake 0 (v := ?_) rfl (by kernel_rfl) (by kernel_rfl) (by kernel_rfl) (fun _ _ _ h => h) (by rfl) ?_ hHeld ?_
  rotate_left
  · intro w hSw; (try dsimp only at hSw); go_simp; (try with_reducible rfl)
  try simp only [Act.put, List.setIfInBounds_toArray, List.set_cons_zero, List.set_cons_succ]
  refine hTake 2 (v := ?_) rfl (by kernel_rfl) (by kernel_rfl) (by kernel_rfl) (fun _ _ _ h => h) (by rfl) ?_ hHeld ?_
  rotate_left
  · intro w hSw; (try dsimp only at hSw); go_simp; (try with_reducible rfl)
  try simp only [Act.put, List.setIfInBounds_toArray, List.set_cons_zero, List.set_cons_succ]
  refine hStep 1 rfl (by kernel_rfl) (by rfl) (fun K hK => ?_)
  have HK := Lib.hid hK
  clear hK
  go_simp
  refine (shaRoot_any x0 _ hx0a hx0b).mono ?_
  rintro e w6 ⟨rfl, hb6⟩
  rw [← HR0.out]
  have hbA : Below w5.heap.size w5 w6 := hHeld.trans (hb6.mono hHeld.size)
  have hHeldN := hbA
  refine HK.out _ _ hHeldN ?_
  clear HK K hHeld
  have hHeld := hHeldN
  clear hHeldN
  try simp only [Act.put, List.setIfInBounds_toArray, List.set_cons_zero, List.set_cons_succ]
  refine hTake 3 (v := (.bool false)) rfl (by kernel_rfl) (by kernel_rfl) (by kernel_rfl) (fun _ _ _ h => h) (by rfl) ?_ hHeld ?_
  · intro w hSw; have h1 := HR0.out; go_simp; (try with_reducible rfl)
  try simp only [Act.put, List.setIfInBounds_toArray, List.set_cons_zero, List.set_cons_succ]
  refine hTake 4 (v := ?_) rfl (by kernel_rfl) (by kernel_rfl) (by kernel_rfl) (fun _ _ _ h => h) (by rfl) ?_ hHeld ?_
  rotate_left
  · intro w hSw; (try dsimp only at hSw); go_simp; (try with_reducible rfl)
  try simp only [Act.put, List.setIfInBounds_toArray, List.set_cons_zero, List.set_cons_succ]
  refine hTake 5 (v := (.agg (arr begin8))) rfl (by kernel_rfl) (by kernel_rfl) (by kernel_rfl) (fun _ _ _ h => h) (by rfl) ?_ hHeld ?_
  · intro wy hSw; exact yield_loadW under_8 info_8 (.tmp 10) rfl rfl HE8.out (HD5.out.below hSw)
  try simp only [Act.put, List.setIfInBounds_toArray, List.set_cons_zero, List.set_cons_succ]
  refine hStep 6 rfl (by kernel_rfl) (by rfl) (fun K hK => ?_)
  have HK := Lib.hid hK
  clear hK
  go_simp
  refine (refBegin_any _).mono ?_
  rintro e w7 ⟨rfl, hb7⟩
  have hbB : Below w5.heap.size w5 w7 := hHeld.trans (hb7.mono hHeld.size)
  have hHeldN := hbB
  refine HK.out _ _ hHeldN ?_
  clear HK K hHeld
  have hHeld := hHeldN
  clear hHeldN
  try simp only [Act.put, List.setIfInBounds_toArray, List.set_cons_zero, List.set_cons_succ]
  refine hTake 7 (v := (.bool false)) rfl (by kernel_rfl) (by kernel_rfl) (by kernel_rfl) (fun _ _ _ h => h) (by rfl) ?_ hHeld ?_
  · intro wy hSw; exact yield_neqA guard8 (.tmp 28) (.tmp 29) rfl rfl rfl (E8.out begin8 wy HE8.out)
  try simp only [Act.put, List.setIfInBounds_toArray, List.set_cons_zero, List.set_cons_succ]
  refine hTake 8 (v := ?_) rfl (by kernel_rfl) (by kernel_rfl) (by kernel_rfl) (fun _ _ _ h => h) (by rfl) ?_ hHeld ?_
  rotate_left
  · intro w hSw; (try dsimp only at hSw); go_simp; (try with_reducible rfl)
  try simp only [Act.put, List.setIfInBounds_toArray, List.set_cons_zero, List.set_cons_succ]
  refine hDone (by kernel_rfl) ?_
  show NoPanic _ _ _ _
  refine NoPanic.normal ?_
  have HA7 := Lib.hid (HA5.out.below hHeld)
  have HB7 : Hid (Below w.heap.size w w7) := HB5.out.trans (hHeld.mono HB5.out.size)
  clear hHeld hbA hbB hb6 hb7 HA5 HB5 HD5
  go_upto_if 33 with fail
  go_cut [] from 32 (fun wx => Below w7.heap.size w7 wx)
  case first =>
    by_cases h1000 : x3 ≤ 1000
    · by_cases hneg : x3 < 0
      · have hd : decide (x3 ≤ 1000) = true := decide_eq_true h1000
        rw [hd]
        go_wp2_with fail
        refine (Fill_neg x3 _ hneg).mono ?_
        rintro e w8 ⟨rfl, rfl⟩
        go_wp2_with fail
        refine hStart (fun w' => Below w7.heap.size w7 w') (by kernel_rfl) ?_
        have hHeld := (Below.refl w7.heap.size w7).drew
        refine hTake 0 (v := ?_) rfl (by kernel_rfl) (by kernel_rfl) (by kernel_rfl) (fun _ _ _ h => h) (by rfl) ?_ hHeld ?_
        rotate_left
        · intro w hSw; (try dsimp only at hSw); go_simp; (try with_reducible rfl)
        try simp only [Act.put, List.setIfInBounds_toArray, List.set_cons_zero, List.set_cons_succ]
        refine hTake 1 (v := (.bool true)) rfl (by kernel_rfl) (by kernel_rfl) (by kernel_rfl) (fun _ _ _ h => h) (by rfl) ?_ hHeld ?_
        · intro w hSw; have h1 := hneg; go_simp; (try with_reducible rfl)
        try simp only [Act.put, List.setIfInBounds_toArray, List.set_cons_zero, List.set_cons_succ]
        refine hTake 2 (v := ?_) rfl (by kernel_rfl) (by kernel_rfl) (by kernel_rfl) (fun _ _ _ h => h) (by rfl) ?_ hHeld ?_
        rotate_left
        · intro w hSw; (try dsimp only at hSw); go_simp; (try with_reducible rfl)
        try simp only [Act.put, List.setIfInBounds_toArray, List.set_cons_zero, List.set_cons_succ]
        refine hTake 3 (v := ?_) rfl (by kernel_rfl) (by kernel_rfl) (by kernel_rfl) (fun _ _ _ h => h) (by rfl) ?_ hHeld ?_
        rotate_left
        · intro w hSw; (try dsimp only at hSw); go_simp; (try with_reducible rfl)
        try simp only [Act.put, List.setIfInBounds_toArray, List.set_cons_zero, List.set_cons_succ]
        refine hTake 4 (v := ?_) rfl (by kernel_rfl) (by kernel_rfl) (by kernel_rfl) (fun _ _ _ h => h) (by rfl) ?_ hHeld ?_
        rotate_left
        · intro w hSw; (try dsimp only at hSw); go_simp; (try with_reducible rfl)
        try simp only [Act.put, List.setIfInBounds_toArray, List.set_cons_zero, List.set_cons_succ]
        refine hTake 5 (v := ?_) rfl (by kernel_rfl) (by kernel_rfl) (by kernel_rfl) (fun _ _ _ h => h) (by rfl) ?_ hHeld ?_
        rotate_left
        · intro w hSw; (try dsimp only at hSw); go_simp; (try with_reducible rfl)
        try simp only [Act.put, List.setIfInBounds_toArray, List.set_cons_zero, List.set_cons_succ]
        refine hTake 6 (v := ?_) rfl (by kernel_rfl) (by kernel_rfl) (by kernel_rfl) (fun _ _ _ h => h) (by rfl) ?_ hHeld ?_
        rotate_left
        · intro w hSw; (try dsimp only at hSw); go_simp; (try with_reducible rfl)
        try simp only [Act.put, List.setIfInBounds_toArray, List.set_cons_zero, List.set_cons_succ]
        refine hTake 7 (v := ?_) rfl (by kernel_rfl) (by kernel_rfl) (by kernel_rfl) (fun _ _ _ h => h) (by rfl) ?_ hHeld ?_
        rotate_left
        · intro w hSw; (try dsimp only at hSw); go_simp; (try with_reducible rfl)
        try simp only [Act.put, List.setIfInBounds_toArray, List.set_cons_zero, List.set_cons_succ]
        refine hTake 8 (v := ?_) rfl (by kernel_rfl) (by kernel_rfl) (by kernel_rfl) (fun _ _ _ h => h) (by rfl) ?_ hHeld ?_
        rotate_left
        · intro w hSw; (try dsimp only at hSw); go_simp; (try with_reducible rfl)
        try simp only [Act.put, List.setIfInBounds_toArray, List.set_cons_zero, List.set_cons_succ]
        refine hTake 9 (v := (.bool false)) rfl (by kernel_rfl) (by kernel_rfl) (by kernel_rfl) (fun _ _ _ h => h) (by rfl) ?_ hHeld ?_
        · intro w hSw; have h1 := hneg; go_simp; (try with_reducible rfl)
        try simp only [Act.put, List.setIfInBounds_toArray, List.set_cons_zero, List.set_cons_succ]
        refine hTake 10 (v := ?_) rfl (by kernel_rfl) (by kernel_rfl) (by kernel_rfl) (fun _ _ _ h => h) (by rfl) ?_ hHeld ?_
        rotate_left
        · intro w hSw; (try dsimp only at hSw); go_simp; (try with_reducible rfl)
        try simp only [Act.put, List.setIfInBounds_toArray, List.set_cons_zero, List.set_cons_succ]
        refine hSkip 11 rfl (by kernel_rfl) (by kernel_rfl) (by kernel_rfl) (fun _ _ _ h => h) (by rfl) hHeld ?_
        try simp only [Act.put, List.setIfInBounds_toArray, List.set_cons_zero, List.set_cons_succ]
        refine hSkip 12 rfl (by kernel_rfl) (by kernel_rfl) (by kernel_rfl) (fun _ _ _ h => h) (by rfl) hHeld ?_
        try simp only [Act.put, List.setIfInBounds_toArray, List.set_cons_zero, List.set_cons_succ]
        refine hSkip 13 rfl (by kernel_rfl) (by kernel_rfl) (by kernel_rfl) (fun _ _ _ h => h) (by rfl) hHeld ?_
        try simp only [Act.put, List.setIfInBounds_toArray, List.set_cons_zero, List.set_cons_succ]
        refine hSkip 14 rfl (by kernel_rfl) (by kernel_rfl) (by kernel_rfl) (fun _ _ _ h => h) (by rfl) hHeld ?_
        try simp only [Act.put, List.setIfInBounds_toArray, List.set_cons_zero, List.set_cons_succ]
        refine hSkip 15 rfl (by kernel_rfl) (by kernel_rfl) (by kernel_rfl) (fun _ _ _ h => h) (by rfl) hHeld ?_
        try simp only [Act.put, List.setIfInBounds_toArray, List.set_cons_zero, List.set_cons_succ]
        refine hSkip 16 rfl (by kernel_rfl) (by kernel_rfl) (by kernel_rfl) (fun _ _ _ h => h) (by rfl) hHeld ?_
        try simp only [Act.put, List.setIfInBounds_toArray, List.set_cons_zero, List.set_cons_succ]
        refine hTake 17 (v := ?_) rfl (by kernel_rfl) (by kernel_rfl) (by kernel_rfl) (fun _ _ _ h => h) (by rfl) ?_ hHeld ?_
        rotate_left
        · intro w hSw; (try dsimp only at hSw); go_simp; (try with_reducible rfl)
        try simp only [Act.put, List.setIfInBounds_toArray, List.set_cons_zero, List.set_cons_succ]
        refine hTake 18 (v := ?_) rfl (by kernel_rfl) (by kernel_rfl) (by kernel_rfl) (fun _ _ _ h => h) (by rfl) ?_ hHeld ?_
        rotate_left
        · intro w hSw; (try dsimp only at hSw); go_simp; (try with_reducible rfl)
        try simp only [Act.put, List.setIfInBounds_toArray, List.set_cons_zero, List.set_cons_succ]
        refine hDone (by kernel_rfl) ?_
        show NoPanic _ _ _ _
        refine NoPanic.normal ?_
        have HBF := Lib.hid hHeld
        clear hHeld
        go_wp2
        go_meet
        case rel => exact HBF.out
      · have hd : decide (x3 ≤ 1000) = true := decide_eq_true h1000
        rw [hd]
        obtain ⟨m, rfl⟩ : ∃ m : Nat, x3 = (m : Int) := ⟨x3.toNat, by omega⟩
        have hm : m ≤ 1000 := by omega
        go_wp2_with fail
        refine (Fill_any m _ (by omega)).mono ?_
        rintro e w8 ⟨x8, rfl, hx8, hb8⟩
        obtain ⟨a8, c8, n8, hv8, hn8, hbs8⟩ := hx8.toW
        subst hv8
        have HS8 : Hid (∀ w', Below w8.heap.size w8 w' → (convert 22 9 (.slice a8 n8 c8)).run Try.prog w' = .ok (.string (strB (fillN m))) w') := fun w' h => run_str hn8 (hbs8.below h)
        have HB8 := Lib.hid hb8
        clear hx8 hn8 hbs8 hb8
        have hnn : ¬ (m : Int) < 0 := by omega
        have hge : (0 : Int) ≤ (m : Int) := by omega
        go_wp2_with fail
        refine hStart (fun w' => Below w8.heap.size w8 w') (by kernel_rfl) ?_
        have hHeld := (Below.refl w8.heap.size w8).drew
        refine hTake 0 (v := ?_) rfl (by kernel_rfl) (by kernel_rfl) (by kernel_rfl) (fun _ _ _ h => h) (by rfl) ?_ hHeld ?_
        rotate_left
        · intro w hSw; (try dsimp only at hSw); go_simp; (try with_reducible rfl)
        try simp only [Act.put, List.setIfInBounds_toArray, List.set_cons_zero, List.set_cons_succ]
        refine hTake 1 (v := (.bool false)) rfl (by kernel_rfl) (by kernel_rfl) (by kernel_rfl) (fun _ _ _ h => h) (by rfl) ?_ hHeld ?_
        · intro w hSw; have h1 := hnn; go_simp; (try with_reducible rfl)
        try simp only [Act.put, List.setIfInBounds_toArray, List.set_cons_zero, List.set_cons_succ]
        refine hTake 2 (v := ?_) rfl (by kernel_rfl) (by kernel_rfl) (by kernel_rfl) (fun _ _ _ h => h) (by rfl) ?_ hHeld ?_
        rotate_left
        · intro w hSw; (try dsimp only at hSw); go_simp; (try with_reducible rfl)
        try simp only [Act.put, List.setIfInBounds_toArray, List.set_cons_zero, List.set_cons_succ]
        refine hSkip 3 rfl (by kernel_rfl) (by kernel_rfl) (by kernel_rfl) (fun _ _ _ h => h) (by rfl) hHeld ?_
        try simp only [Act.put, List.setIfInBounds_toArray, List.set_cons_zero, List.set_cons_succ]
        refine hSkip 4 rfl (by kernel_rfl) (by kernel_rfl) (by kernel_rfl) (fun _ _ _ h => h) (by rfl) hHeld ?_
        try simp only [Act.put, List.setIfInBounds_toArray, List.set_cons_zero, List.set_cons_succ]
        refine hSkip 5 rfl (by kernel_rfl) (by kernel_rfl) (by kernel_rfl) (fun _ _ _ h => h) (by rfl) hHeld ?_
        try simp only [Act.put, List.setIfInBounds_toArray, List.set_cons_zero, List.set_cons_succ]
        refine hTake 6 (v := ?_) rfl (by kernel_rfl) (by kernel_rfl) (by kernel_rfl) (fun _ _ _ h => h) (by rfl) ?_ hHeld ?_
        rotate_left
        · intro w hSw; (try dsimp only at hSw); go_simp; (try with_reducible rfl)
        try simp only [Act.put, List.setIfInBounds_toArray, List.set_cons_zero, List.set_cons_succ]
        refine hTake 7 (v := ?_) rfl (by kernel_rfl) (by kernel_rfl) (by kernel_rfl) (fun _ _ _ h => h) (by rfl) ?_ hHeld ?_
        rotate_left
        · intro w hSw; (try dsimp only at hSw); go_simp; (try with_reducible rfl)
        try simp only [Act.put, List.setIfInBounds_toArray, List.set_cons_zero, List.set_cons_succ]
        refine hTake 8 (v := ?_) rfl (by kernel_rfl) (by kernel_rfl) (by kernel_rfl) (fun _ _ _ h => h) (by rfl) ?_ hHeld ?_
        rotate_left
        · intro w hSw; (try dsimp only at hSw); go_simp; (try with_reducible rfl)
        try simp only [Act.put, List.setIfInBounds_toArray, List.set_cons_zero, List.set_cons_succ]
        refine hTake 9 (v := (.bool true)) rfl (by kernel_rfl) (by kernel_rfl) (by kernel_rfl) (fun _ _ _ h => h) (by rfl) ?_ hHeld ?_
        · intro w hSw; have h1 := hge; go_simp; (try with_reducible rfl)
        try simp only [Act.put, List.setIfInBounds_toArray, List.set_cons_zero, List.set_cons_succ]
        refine hTake 10 (v := ?_) rfl (by kernel_rfl) (by kernel_rfl) (by kernel_rfl) (fun _ _ _ h => h) (by rfl) ?_ hHeld ?_
        rotate_left
        · intro w hSw; (try dsimp only at hSw); go_simp; (try with_reducible rfl)
        try simp only [Act.put, List.setIfInBounds_toArray, List.set_cons_zero, List.set_cons_succ]
        refine hTake 11 (v := ?_) rfl (by kernel_rfl) (by kernel_rfl) (by kernel_rfl) (fun _ _ _ h => h) (by rfl) ?_ hHeld ?_
        rotate_left
        · intro w hSw; (try dsimp only at hSw); go_simp; (try with_reducible rfl)
        try simp only [Act.put, List.setIfInBounds_toArray, List.set_cons_zero, List.set_cons_succ]
        refine hTake 12 (v := (.string (strB (fillN m)))) rfl (by kernel_rfl) (by kernel_rfl) (by kernel_rfl) (fun _ _ _ h => h) (by rfl) ?_ hHeld ?_
        · intro w hSw; have h1 := HS8.out w hSw; go_simp; (try with_reducible rfl)
        try simp only [Act.put, List.setIfInBounds_toArray, List.set_cons_zero, List.set_cons_succ]
        refine hTake 13 (v := ?_) rfl (by kernel_rfl) (by kernel_rfl) (by kernel_rfl) (fun _ _ _ h => h) (by rfl) ?_ hHeld ?_
        rotate_left
        · intro w hSw; (try dsimp only at hSw); go_simp; (try with_reducible rfl)
        try simp only [Act.put, List.setIfInBounds_toArray, List.set_cons_zero, List.set_cons_succ]
        refine hStep 14 rfl (by kernel_rfl) (by rfl) (fun K hK => ?_)
        have HK := Lib.hid hK
        clear hK
        go_simp
        refine (refFill_any m _ (by omega)).mono ?_
        rintro e w9 ⟨x9, rfl, hx9, hb9⟩
        obtain ⟨a9, c9, n9, hv9, hn9, hbs9⟩ := hx9.toW
        subst hv9
        have HS9 : Hid (∀ w', Below w9.heap.size w9 w' → (convert 22 9 (.slice a9 n9 c9)).run Try.prog w' = .ok (.string (strB (fillN m))) w') := fun w' h => run_str hn9 (hbs9.below h)
        have hbC : Below w8.heap.size w8 w9 := hHeld.trans (hb9.mono hHeld.size)
        clear hx9 hn9 hbs9
        have hHeldN := hbC
        refine HK.out _ _ hHeldN ?_
        clear HK K hHeld
        have hHeld := hHeldN
        clear hHeldN
        try simp only [Act.put, List.setIfInBounds_toArray, List.set_cons_zero, List.set_cons_succ]
        refine hSwitch (S2 := fun w' => Below w9.heap.size w9 w') (fun w' hw' => hbC.trans (hw'.mono hbC.size)) _ _ _ _ ?_
        clear hHeld
        have hHeld := Below.refl w9.heap.size w9
        refine hTake 15 (v := (.string (strB (fillN m)))) rfl (by kernel_rfl) (by kernel_rfl) (by kernel_rfl) (fun _ _ _ h => h) (by rfl) ?_ hHeld ?_
        · intro w hSw; have h1 := HS9.out w hSw; go_simp; (try with_reducible rfl)
        try simp only [Act.put, List.setIfInBounds_toArray, List.set_cons_zero, List.set_cons_succ]
        refine hTake 16 (v := (.bool false)) rfl (by kernel_rfl) (by kernel_rfl) (by kernel_rfl) (fun _ _ _ h => h) (by rfl) ?_ hHeld ?_
        · intro w hSw; have h1 := hge; go_simp; (try with_reducible rfl)
        try simp only [Act.put, List.setIfInBounds_toArray, List.set_cons_zero, List.set_cons_succ]
        refine hTake 17 (v := ?_) rfl (by kernel_rfl) (by kernel_rfl) (by kernel_rfl) (fun _ _ _ h => h) (by rfl) ?_ hHeld ?_
        rotate_left
        · intro w hSw; (try dsimp only at hSw); go_simp; (try with_reducible rfl)
        try simp only [Act.put, List.setIfInBounds_toArray, List.set_cons_zero, List.set_cons_succ]
        refine hTake 18 (v := ?_) rfl (by kernel_rfl) (by kernel_rfl) (by kernel_rfl) (fun _ _ _ h => h) (by rfl) ?_ hHeld ?_
        rotate_left
        · intro w hSw; (try dsimp only at hSw); go_simp; (try with_reducible rfl)
        try simp only [Act.put, List.setIfInBounds_toArray, List.set_cons_zero, List.set_cons_succ]
        refine hDone (by kernel_rfl) ?_
        show NoPanic _ _ _ _
        refine NoPanic.normal ?_
        have HBF := Lib.hid (HB8.out.trans ((hbC.trans (hHeld.mono hbC.size)).mono HB8.out.size))
        clear hHeld hbC hb9
        go_wp2
        go_meet
        case rel => exact HBF.out
    · have hd : decide (x3 ≤ 1000) = false := decide_eq_false h1000
      rw [hd]
      go_wp2_with fail
      go_meet
      case rel => exact Below.refl _ _
  case rest =>
  have HA8 := Lib.hid (HA7.out.below hcut)
  have HB8 : Hid (Below w.heap.size w wc) := HB7.out.trans (hcut.mono HB7.out.size)
  clear hcut HA7 HB7
  have hszw : w.heap.size ≤ wc.heap.size := HB8.out.size
  by_cases h64 : n2 = 64
  · have hn64 : ((n2 : Int) != 64) = false := by rw [bne_eq_false_iff_eq]; omega
    have H64 := Lib.hid h64
    have HBL := Lib.hid (blockN_8 s l2).1
    have HBLK := Lib.hid (Block_any s H8.out a2 l2 n2 c2 · HN2.out H64.out ·)
    have HREF := Lib.hid (refBlock_any s H8.out a2 l2 n2 c2 · HN2.out H64.out ·)
    generalize blockN s l2 = BB at *
    clear h64
    go_wp2_with (first
      | (with_reducible refine wpList_load_arr (T := 29) under_8 info_8 rfl (.tmp 5) rfl rfl HL8.out HA8.out ?_))
    refine (HBLK.out _ (HB2.out.below HB8.out)).mono ?_
    rintro e w9 ⟨rfl, hb9⟩
    have HA9 := Lib.hid (HA8.out.below hb9)
    have HB9 := Lib.hid (HB8.out.trans (hb9.mono hszw))
    clear hb9
    go_wp2_with (first
      | ((with_reducible refine wpList_alloc8m rfl rfl ?_); intro w10 D2 hD2 hatD2 hb10)
      | ((with_reducible refine wpList_store_arrn (T := 29) (n := 8) info_8 rfl (.tmp 12) (.tmp 59) rfl rfl BB rfl HZ8.out HBL.out hatD2.out ?_); intro w11 hat11 hk11; (try simp only [Act.put, List.setIfInBounds_toArray, List.set_cons_zero, List.set_cons_succ])))
    have hb911 : Below w9.heap.size w9 w11 := hb10.trans (hk11.below hb10.size (fun i hi => by have := hD2.out; omega))
    have HA11 := Lib.hid (HA9.out.below hb911)
    have HB11 := Lib.hid (HB9.out.trans (hb911.mono HB9.out.size))
    have HD11 : Hid (ArrAt 29 w11 D2 BB) := hat11
    clear hb911 hat11 hk11 hb10 hatD2 hD2
    go_wp2_with fail
    refine hStart (fun w' => Below w11.heap.size w11 w') (by kernel_rfl) ?_
    have hHeld := (Below.refl w11.heap.size w11).drew
    refine hTake 0 (v := ?_) rfl (by kernel_rfl) (by kernel_rfl) (by kernel_rfl) (fun _ _ _ h => h) (by rfl) ?_ hHeld ?_
    rotate_left
    · intro w hSw; (try dsimp only at hSw); go_simp; (try with_reducible rfl)
    try simp only [Act.put, List.setIfInBounds_toArray, List.set_cons_zero, List.set_cons_succ]
    refine hTake 1 (v := ?_) rfl (by kernel_rfl) (by kernel_rfl) (by kernel_rfl) (fun _ _ _ h => h) (by rfl) ?_ hHeld ?_
    rotate_left
    · intro w hSw; (try dsimp only at hSw); go_simp; (try with_reducible rfl)
    try simp only [Act.put, List.setIfInBounds_toArray, List.set_cons_zero, List.set_cons_succ]
    refine hTake 2 (v := (.agg (arr BB))) rfl (by kernel_rfl) (by kernel_rfl) (by kernel_rfl) (fun _ _ _ h => h) (by rfl) ?_ hHeld ?_
    · intro wy hSw; exact yield_loadW under_8 info_8 (.tmp 12) rfl rfl HBL.out (HD11.out.below hSw)
    try simp only [Act.put, List.setIfInBounds_toArray, List.set_cons_zero, List.set_cons_succ]
    refine hTake 3 (v := (.agg (arr s))) rfl (by kernel_rfl) (by kernel_rfl) (by kernel_rfl) (fun _ _ _ h => h) (by rfl) ?_ hHeld ?_
    · intro wy hSw; exact yield_loadW under_8 info_8 (.tmp 5) rfl rfl HL8.out (HA11.out.below hSw)
    try simp only [Act.put, List.setIfInBounds_toArray, List.set_cons_zero, List.set_cons_succ]
    refine hTake 4 (v := ?_) rfl (by kernel_rfl) (by kernel_rfl) (by kernel_rfl) (fun _ _ _ h => h) (by rfl) ?_ hHeld ?_
    rotate_left
    · intro w hSw; (try dsimp only at hSw); go_simp; (try with_reducible rfl)
    try simp only [Act.put, List.setIfInBounds_toArray, List.set_cons_zero, List.set_cons_succ]
    refine hStep 5 rfl (by kernel_rfl) (by rfl) (fun K hK => ?_)
    have HK := Lib.hid hK
    clear hK
    go_simp
    refine (HREF.out _ (HB2.out.below (HB11.out.trans (hHeld.mono HB11.out.size)))).mono ?_
    rintro e w12 ⟨rfl, hb12⟩
    have hbA : Below w11.heap.size w11 w12 := hHeld.trans (hb12.mono hHeld.size)
    have hHeldN := hbA
    refine HK.out _ _ hHeldN ?_
    clear HK K hHeld
    have hHeld := hHeldN
    clear hHeldN
    try simp only [Act.put, List.setIfInBounds_toArray, List.set_cons_zero, List.set_cons_succ]
    refine hTake 6 (v := (.bool true)) rfl (by kernel_rfl) (by kernel_rfl) (by kernel_rfl) (fun _ _ _ h => h) (by rfl) ?_ hHeld ?_
    · intro wy hSw; exact yield_eqlA guard8 (.tmp 76) (.tmp 79) rfl rfl rfl (E8.out BB wy HBL.out)
    try simp only [Act.put, List.setIfInBounds_toArray, List.set_cons_zero, List.set_cons_succ]
    refine hTake 7 (v := ?_) rfl (by kernel_rfl) (by kernel_rfl) (by kernel_rfl) (fun _ _ _ h => h) (by rfl) ?_ hHeld ?_
    rotate_left
    · intro w hSw; (try dsimp only at hSw); go_simp; (try with_reducible rfl)
    try simp only [Act.put, List.setIfInBounds_toArray, List.set_cons_zero, List.set_cons_succ]
    refine hTake 8 (v := ?_) rfl (by kernel_rfl) (by kernel_rfl) (by kernel_rfl) (fun _ _ _ h => h) (by rfl) ?_ hHeld ?_
    rotate_left
    · intro w hSw; (try dsimp only at hSw); go_simp; (try with_reducible rfl)
    try simp only [Act.put, List.setIfInBounds_toArray, List.set_cons_zero, List.set_cons_succ]
    refine hStep 9 rfl (by kernel_rfl) (by rfl) (fun K hK => ?_)
    have HK := Lib.hid hK
    clear hK
    go_simp
    refine (awake4 _).mono ?_
    rintro e w13 ⟨rfl, hb13⟩
    have hbB : Below w11.heap.size w11 w13 := hHeld.trans (hb13.mono hHeld.size)
    have hHeldN := hbB
    refine HK.out _ _ hHeldN ?_
    clear HK K hHeld
    have hHeld := hHeldN
    clear hHeldN
    try simp only [Act.put, List.setIfInBounds_toArray, List.set_cons_zero, List.set_cons_succ]
    refine hTake 10 (v := ?_) rfl (by kernel_rfl) (by kernel_rfl) (by kernel_rfl) (fun _ _ _ h => h) (by rfl) ?_ hHeld ?_
    rotate_left
    · intro w hSw; (try dsimp only at hSw); go_simp; (try with_reducible rfl)
    try simp only [Act.put, List.setIfInBounds_toArray, List.set_cons_zero, List.set_cons_succ]
    refine hTake 11 (v := ?_) rfl (by kernel_rfl) (by kernel_rfl) (by kernel_rfl) (fun _ _ _ h => h) (by rfl) ?_ hHeld ?_
    rotate_left
    · intro w hSw; (try dsimp only at hSw); go_simp; (try with_reducible rfl)
    try simp only [Act.put, List.setIfInBounds_toArray, List.set_cons_zero, List.set_cons_succ]
    refine hDone (by kernel_rfl) ?_
    show NoPanic _ _ _ _
    refine NoPanic.normal ?_
    have HBF := Lib.hid (HB11.out.trans (hHeld.mono HB11.out.size))
    clear hHeld hbA hbB hb12 hb13
    go_wp2
    go_ret
    exact ⟨rfl, HBF.out⟩
  · have hn64 : ((n2 : Int) != 64) = true := by rw [bne_iff_ne]; omega
    have H64 := Lib.hid h64
    clear h64
    go_wp2_with (first
      | (with_reducible refine wpList_load_arr (T := 29) under_8 info_8 rfl (.tmp 5) rfl rfl HL8.out HA8.out ?_))
    refine (Block_bad s a2 n2 c2 _ H64.out).mono ?_
    rintro e w9 ⟨rfl, hb9⟩
    have HB9 := Lib.hid (HB8.out.trans (hb9.mono hszw))
    clear hb9
    have k8 : ∀ w, (Op.equalIn 10000 29 (.agg (arr [0, 0, 0, 0, 0, 0, 0, 0])) (.agg (arr [0, 0, 0, 0, 0, 0, 0, 0]))).run Try.prog w = .ok true w := fun w => E8.out [0, 0, 0, 0, 0, 0, 0, 0] w rfl
    have k8a : ∀ w, (Op.equalIn 10000 29 (.agg #[.int .u32 0, .int .u32 0, .int .u32 0, .int .u32 0, .int .u32 0, .int .u32 0, .int .u32 0, .int .u32 0]) (.agg #[.int .u32 0, .int .u32 0, .int .u32 0, .int .u32 0, .int .u32 0, .int .u32 0, .int .u32 0, .int .u32 0])).run Try.prog w = .ok true w := fun w => E8.out [0, 0, 0, 0, 0, 0, 0, 0] w rfl
    have k8b : ∀ w, (Op.equalIn 10000 29 (.agg #[.int .u32 0, .int .u32 0, .int .u32 0, .int .u32 0, .int .u32 0, .int .u32 0, .int .u32 0, .int .u32 0]) (.agg (arr [0, 0, 0, 0, 0, 0, 0, 0]))).run Try.prog w = .ok true w := fun w => E8.out [0, 0, 0, 0, 0, 0, 0, 0] w rfl
    have g8 : Try.prog.eqGuardType Try.prog.depth 29 = false := guard8
    go_wp2_with (first
      | ((with_reducible refine wpList_alloc8m rfl rfl ?_); intro w10 D2 hD2 hatD2 hb10)
      | ((with_reducible refine wpList_store_arrn (T := 29) (n := 8) info_8 rfl (.tmp 12) (.tmp 59) rfl rfl [0, 0, 0, 0, 0, 0, 0, 0] rfl HZ8.out HZ8.out hatD2.out ?_); intro w11 hat11 hk11; (try simp only [Act.put, List.setIfInBounds_toArray, List.set_cons_zero, List.set_cons_succ]); have c0 : w11.cell? ⟨D2, 0, none⟩ = some (.int .u32 0) := hat11.out.cell (j := 0) (by show _ < 8; omega); have c1 : w11.cell? ⟨D2, 1, none⟩ = some (.int .u32 0) := hat11.out.cell (j := 1) (by show _ < 8; omega); have c2 : w11.cell? ⟨D2, 2, none⟩ = some (.int .u32 0) := hat11.out.cell (j := 2) (by show _ < 8; omega); have c3 : w11.cell? ⟨D2, 3, none⟩ = some (.int .u32 0) := hat11.out.cell (j := 3) (by show _ < 8; omega); have c4 : w11.cell? ⟨D2, 4, none⟩ = some (.int .u32 0) := hat11.out.cell (j := 4) (by show _ < 8; omega); have c5 : w11.cell? ⟨D2, 5, none⟩ = some (.int .u32 0) := hat11.out.cell (j := 5) (by show _ < 8; omega); have c6 : w11.cell? ⟨D2, 6, none⟩ = some (.int .u32 0) := hat11.out.cell (j := 6) (by show _ < 8; omega); have c7 : w11.cell? ⟨D2, 7, none⟩ = some (.int .u32 0) := hat11.out.cell (j := 7) (by show _ < 8; omega))
      | (with_reducible refine wpList_load_arr (T := 29) under_8 info_8 rfl (.tmp 12) rfl rfl HZ8.out hat11.out ?_)
      | (with_reducible refine wpList_build8z rfl rfl ?_))
    have hb911 : Below w9.heap.size w9 w11 := hb10.trans (hk11.below hb10.size (fun i hi => by have := hD2.out; omega))
    have HB11 := Lib.hid (HB9.out.trans (hb911.mono HB9.out.size))
    refine (awake4 _).mono ?_
    rintro e w13 ⟨rfl, hb13⟩
    go_wp2
    go_ret
    exact ⟨rfl, HB11.out.trans (hb13.mono HB11.out.size)⟩
end Go.Proofs.Ytegeglnfpddgfaa
