/- The walk of sha.Block. -/
import Derived.Test.YtegeglnfpddgfaaShaWords
namespace Go.Proofs.Ytegeglnfpddgfaa
open Go.RowKit

def mixN (t s : List Nat) (k : Nat) : List Nat := (addN t s).take k ++ t.drop k
theorem mixN_len {t s : List Nat} (ht : t.length = 8) {k : Nat} (hk : k ≤ 8) : (mixN t s k).length = 8 := by
  unfold mixN; rw [List.length_append, List.length_take, List.length_drop, (addN_8 t s).1, ht]; omega
theorem mixN_0 (t s : List Nat) : mixN t s 0 = t := by simp [mixN]
theorem mixN_8 {t s : List Nat} (ht : t.length = 8) : mixN t s 8 = addN t s := by
  unfold mixN
  rw [List.take_of_length_le (by rw [(addN_8 t s).1]; omega), List.drop_eq_nil_of_le (by omega), List.append_nil]
theorem mixN_at {t s : List Nat} {k : Nat} (hk : k < 8) : (mixN t s k).getD k 0 = t.getD k 0 := by
  unfold mixN
  have h1 : ((addN t s).take k).length = k := by rw [List.length_take, (addN_8 t s).1]; omega
  simp only [List.getD]
  rw [List.getElem?_append_right (by omega), h1, Nat.sub_self, List.getElem?_drop, Nat.add_zero]
theorem addN_at {t s : List Nat} {k : Nat} (hk : k < 8) : (addN t s).getD k 0 = (t.getD k 0 + s.getD k 0) % 4294967296 := by
  unfold addN; simp [List.getD, hk]
theorem mixN_set {t s : List Nat} (ht : t.length = 8) {k : Nat} (hk : k < 8) : (mixN t s k).set k ((t.getD k 0 + s.getD k 0) % 4294967296) = mixN t s (k + 1) := by
  have h1 : ((addN t s).take k).length = k := by rw [List.length_take, (addN_8 t s).1]; omega
  unfold mixN
  rw [List.set_append_right _ _ (by omega), h1, Nat.sub_self, List.drop_eq_getElem_cons (by omega), List.set_cons_zero, take_snoc (addN t s) 0 k (by rw [(addN_8 t s).1]; exact hk), addN_at hk, List.append_assoc]
  rfl

theorem rootsL_len : rootsL.length = 64 := by kernel_rfl
theorem results_arr_tmp {T : TypeId} {w : World} {g : Nat} {l : List Nat} {fn : Func} {p q : Tmp} {n : Nat} {E : TypeId} (hu : Try.prog.underlying T = some (.array n E)) (hi : (Try.prog.info? T).map (·.size) = some n) (h : fn.results = #[.cell p T, .tmp q]) (tmps : Array Value)
    (hp : tmps.getD p undef = .pointer (some ⟨g, 0, none⟩)) (hl : l.length = n) (hat : ArrAt T w g l) : (results fn tmps).run Try.prog w = .ok (.tuple #[.agg (arr l), tmps.getD q undef]) w := by
  have hr := run_loadVar_row (P := Try.prog) w g T T (arr l) (0, 0) _ hat hu rfl (by rw [hi, arr_size, hl])
  have hp' : tmps[p]?.getD undef = .pointer (some ⟨g, 0, none⟩) := by simpa using hp
  simp [results, h, hp', asAddr, hr]

set_option maxRecDepth 100000 in
set_option maxHeartbeats 1000000 in
theorem Block_any (s : List Nat) (h8 : Is8 s) (a : Option Addr) (b : List UInt8) (n cap : Nat) (w : World) (hn : n = b.length) (hn64 : n = 64) (hb : Bs w a cap b) :
    Calls Try.prog 15 #[.agg (arr s), .slice a n cap] w fun e w' => e = .returned (.tuple #[.agg (arr (blockN s b)), .bool true]) ∧ Below w.heap.size w w' := by
  have HN := Lib.hid hn
  have HB := Lib.hid hb
  have HN64 := Lib.hid hn64
  have H8 := Lib.hid h8
  have hn1 : ((n : Int) != 64) = false := by rw [bne_eq_false_iff_eq]; omega
  clear hn hb hn64 h8
  obtain ⟨w1, hw1⟩ : ∃ w1, w1 = (w.alloc (.cells (arr s) 29)).alloc (.cells (arr [0, 0, 0, 0, 0, 0, 0, 0]) 29) := ⟨_, rfl⟩
  obtain ⟨G, hG⟩ : ∃ G, G = w.heap.size := ⟨_, rfl⟩
  have hat0 : ArrAt 29 w1 G s := by rw [hw1, hG]; exact heap_alloc2_old w _ _
  have hat1 : ArrAt 29 w1 (G + 1) [0, 0, 0, 0, 0, 0, 0, 0] := by rw [hw1, hG]; exact heap_alloc2_new w _ _
  have hb1 : Below w.heap.size w w1 := by rw [hw1]; exact ((Below.refl _ _).alloc (Nat.le_refl _) _).alloc (by simp) _
  have HW1 := Lib.hid hw1
  have HG := Lib.hid hG
  have HA0 := Lib.hid hat0
  have HA1 := Lib.hid hat1
  clear hw1 hG hat0 hat1
  go_enter Try.func15, Try.ntmps15
  go_wp2_with (first | (with_reducible refine wpList_box_arr (T := 29) (l := s) rfl (.tmp 0) rfl rfl ?_) | (with_reducible refine wpList_alloc8 rfl rfl ?_))
  rw [← HW1.out, ← HG.out]
  refine (words_any a b n cap _ HN.out HN64.out (HB.out.below hb1)).mono ?_
  rintro e w2 ⟨rfl, hb2⟩
  have hbw2 := hb1.trans (hb2.mono hb1.size)
  go_wp2_with fail
  refine (roots_any _).mono ?_
  rintro e w3 ⟨rfl, hb3⟩
  have hbw3 := hbw2.trans (hb3.mono hbw2.size)
  have HWL : Hid ((wordsN b).length = 64) := wordsTo_len b 64
  have hb13 : Below w1.heap.size w1 w3 := hb2.trans (hb3.mono hb2.size)
  have hG1 : G + 1 < w1.heap.size := HA1.out.lt
  have hw13 := hb13.size
  have HA03 := Lib.hid (HA0.out.below hb13)
  have HA13 := Lib.hid (HA1.out.below hb13)
  -- the four new blocks
  have hat6 : ArrAt 46 ((w3.alloc (.cells (arr z64) 46)).alloc (.cells (arr z64) 46)) w3.heap.size z64 := heap_alloc2_old w3 _ _
  have hP7 : (w3.alloc (.cells (arr z64) 46)).heap.size = w3.heap.size + 1 := by simp
  have hat7 : ArrAt 46 (((w3.alloc (.cells (arr z64) 46)).alloc (.cells (arr z64) 46)).setRow w3.heap.size (arr (wordsN b))) (w3.alloc (.cells (arr z64) 46)).heap.size z64 :=
    ArrAt.kept (U := (· = w3.heap.size)) (heap_alloc_new _ _) (kept_setRow _ _ _ rfl) (by omega)
  obtain ⟨w5, hw5⟩ : ∃ w5, w5 = (((w3.alloc (.cells (arr z64) 46)).alloc (.cells (arr z64) 46)).setRow w3.heap.size (arr (wordsN b))).setRow (w3.alloc (.cells (arr z64) 46)).heap.size (arr rootsL) := ⟨_, rfl⟩
  have h56 : ArrAt 46 w5 w3.heap.size (wordsN b) := by rw [hw5]; exact ArrAt.kept (U := (· = w3.heap.size + 1)) (hat6.row _) (kept_setRow _ _ _ hP7) (by omega)
  have h57 : ArrAt 46 w5 (w3.heap.size + 1) rootsL := by rw [hw5, ← hP7]; exact hat7.row _
  have hb35 : Below w3.heap.size w3 w5 := by
    rw [hw5]
    exact below_setRow (below_setRow (((Below.refl _ _).alloc (Nat.le_refl _) _).alloc (by simp) _) (Nat.le_refl _) _) (by omega) _
  have hs5 : w5.heap.size = w3.heap.size + 2 := by rw [hw5]; simp [World.setRow]
  have H50 := Lib.hid (HA03.out.below hb35)
  have H51 := Lib.hid (HA13.out.below hb35)
  have H58 := Lib.hid (ArrAt.new 29 w5 [0, 0, 0, 0, 0, 0, 0, 0])
  have HL8 := Lib.hid H8.out.1
  have HAT6 := Lib.hid hat6
  have HAT7 := Lib.hid hat7
  have HW5 := Lib.hid hw5
  clear hw5 hat6 hat7
  go_wp2_with (first
    | (with_reducible refine wpList_alloc64 rfl rfl ?_)
    | (with_reducible refine wpList_store_arr (T := 46) (n := 64) info_64 rfl (.tmp 6) (.tmp 16) rfl rfl (wordsN b) rfl z64_len HWL.out HAT6.out ?_)
    | ((with_reducible refine wpList_store_arr (T := 46) (n := 64) info_64 rfl (.tmp 7) (.tmp 17) rfl rfl rootsL rfl z64_len rootsL_len HAT7.out ?_); rw [← HW5.out])
    | (with_reducible refine wpList_load_arr (T := 29) (l := s) under_8 info_8 rfl (.tmp 2) rfl rfl HL8.out H50.out ?_)
    | (with_reducible refine wpList_alloc8 rfl rfl ?_)
    | (with_reducible refine wpList_store_arr (T := 29) (n := 8) info_8 rfl (.tmp 8) (.tmp 18) rfl rfl s rfl rfl HL8.out H58.out ?_))
  obtain ⟨w6, hw6⟩ : ∃ w6, w6 = (w5.alloc (.cells (arr [0, 0, 0, 0, 0, 0, 0, 0]) 29)).setRow (w3.heap.size + 2) (arr s) := ⟨_, rfl⟩
  have hb56 : Below w5.heap.size w5 w6 := by rw [hw6]; exact below_setRow ((Below.refl _ _).alloc (Nat.le_refl _) _) (by omega) _
  have h68 : ArrAt 29 w6 (w3.heap.size + 2) s := by rw [hw6, ← hs5]; exact H58.out.row s
  have H60 := Lib.hid (H50.out.below hb56)
  have H61 := Lib.hid (H51.out.below hb56)
  have H66 := Lib.hid (h56.below hb56)
  have H67 := Lib.hid (h57.below hb56)
  have H68 := Lib.hid h68
  have hbw6 : Below w.heap.size w w6 := (hbw3.trans (hb35.mono hbw3.size)).trans (hb56.mono (by have := hbw3.size; have := hb35.size; omega))
  have hPG : G + 1 < w3.heap.size := by omega
  have hs6 : w3.heap.size + 2 < w6.heap.size := h68.lt
  rw [← hw6]
  obtain ⟨P, hP⟩ : ∃ P, P = w3.heap.size := ⟨_, rfl⟩
  rw [← hP] at H66 H67 H68 hPG hs6 ⊢
  have hwP : w.heap.size ≤ P := by have := hbw3.size; omega
  clear hw6 hb56 h68 h56 h57 hb35 hs5 hP HW5 HAT6 HAT7 H50 H51 H58 hb13 hw13 hG1 hP7 HA03 HA13 hb2 hb3 hbw2 hbw3 HA0 HA1 HW1
  go_loopw [9, 19] (fun _ i wr => ∃ k : Nat, k ≤ 64 ∧ i = .int .i64 (k : Int) ∧ ArrAt 29 wr (P + 2) (stepsTo s (wordsN b) k) ∧ Kept (· = P + 2) w6 wr ∧ Below w6.heap.size w6 w6) (fun _ i _ => 64 - (intOf i).toNat)
  case atStart => exact ⟨0, Nat.zero_le _, rfl, H68.out, Kept.refl _ _, Below.refl _ _⟩
  case round =>
    obtain ⟨k, hk, rfl, hat, hkp, -⟩ := hrel
    have HA := Lib.hid hat
    clear hat
    by_cases hlt : k < 64
    · have HC8 := Lib.hid (stepsTo_8 H8.out (wordsN b) k)
      have HCL := Lib.hid HC8.out.1
      have HNX : Hid (stepsTo s (wordsN b) (k + 1) = stepN (stepsTo s (wordsN b) k) (rootsL.getD k 0) ((wordsN b).getD k 0)) := rfl
      have HNL := Lib.hid (stepN_8 HC8.out (rootsL.getD k 0) ((wordsN b).getD k 0)).1
      have ldR : ∀ w', Kept (· = P + 2) wr w' → w'.cell? ⟨P + 1, k, none⟩ = some (.int .u32 ((rootsL.getD k 0 : Nat) : Int)) := fun w' h =>
        (H67.out.kept (hkp.trans h (fun i hi => .inl hi)) (by omega)).cell (by rw [rootsL_len]; exact hlt)
      have ldW : ∀ w', Kept (· = P + 2) wr w' → w'.cell? ⟨P, k, none⟩ = some (.int .u32 (((wordsN b).getD k 0 : Nat) : Int)) := fun w' h =>
        (H66.out.kept (hkp.trans h (fun i hi => .inl hi)) (by omega)).cell (by rw [HWL.out]; exact hlt)
      have LR := Lib.hid ldR
      have LW := Lib.hid ldW
      have hki : (k : Int) < 64 := by omega
      generalize rootsL.getD k 0 = rk at *
      generalize (wordsN b).getD k 0 = wk at *
      generalize stepsTo s (wordsN b) k = cur at *
      clear ldR ldW
      go_wp2_with fail
      refine hStart (fun w' => Kept (· = P + 2) wr w') (by kernel_rfl) ?_
      have hHeld := Kept.drew (· = P + 2) wr
      refine hTake 1 (v := ?_) rfl (by kernel_rfl) (by kernel_rfl) (by kernel_rfl) (fun _ _ _ h => h) (by rfl) ?_ hHeld ?_
      rotate_left
      · intro w hSw; (try dsimp only at hSw); go_simp; (try with_reducible rfl)
      try simp only [Act.put, List.setIfInBounds_toArray, List.set_cons_zero, List.set_cons_succ]
      refine hTake 4 (v := ?_) rfl (by kernel_rfl) (by kernel_rfl) (by kernel_rfl) (fun _ _ _ h => h) (by rfl) ?_ hHeld ?_
      rotate_left
      · intro w hSw; (try dsimp only at hSw); go_simp; (try with_reducible rfl)
      try simp only [Act.put, List.setIfInBounds_toArray, List.set_cons_zero, List.set_cons_succ]
      refine hTake 2 (v := ?_) rfl (by kernel_rfl) (by kernel_rfl) (by kernel_rfl) (fun _ _ _ h => h) (by rfl) ?_ hHeld ?_
      rotate_left
      · intro w hSw; (try dsimp only at hSw); go_simp; (try with_reducible rfl)
      try simp only [Act.put, List.setIfInBounds_toArray, List.set_cons_zero, List.set_cons_succ]
      refine hTake 5 (v := ?_) rfl (by kernel_rfl) (by kernel_rfl) (by kernel_rfl) (fun _ _ _ h => h) (by rfl) ?_ hHeld ?_
      rotate_left
      · intro w hSw; (try dsimp only at hSw); go_simp; (try with_reducible rfl)
      try simp only [Act.put, List.setIfInBounds_toArray, List.set_cons_zero, List.set_cons_succ]
      refine hTake 3 (v := (.int .u32 (rk : Int))) rfl (by kernel_rfl) (by kernel_rfl) (by kernel_rfl) (fun _ _ _ h => h) (by rfl) ?_ hHeld ?_
      · intro w hSw; have h1 := LR.out w hSw; go_simp; (try with_reducible rfl)
      try simp only [Act.put, List.setIfInBounds_toArray, List.set_cons_zero, List.set_cons_succ]
      refine hTake 6 (v := (.int .u32 (wk : Int))) rfl (by kernel_rfl) (by kernel_rfl) (by kernel_rfl) (fun _ _ _ h => h) (by rfl) ?_ hHeld ?_
      · intro w hSw; have h1 := LW.out w hSw; go_simp; (try with_reducible rfl)
      try simp only [Act.put, List.setIfInBounds_toArray, List.set_cons_zero, List.set_cons_succ]
      refine hStep 0 rfl (by kernel_rfl) (by rfl) (fun K hK => ?_)
      have HK := Lib.hid hK
      clear hK
      have had : ArrAt 29 wr.drew (P + 2) cur := HA.out
      refine wp_load_arr under_8 info_8 (.tmp 8) rfl rfl HCL.out had ?_
      have hHeldN := hHeld
      refine HK.out _ _ hHeldN ?_
      clear HK K hHeld
      have hHeld := hHeldN
      clear hHeldN
      try simp only [Act.put, List.setIfInBounds_toArray, List.set_cons_zero, List.set_cons_succ]
      refine hStep 7 rfl (by kernel_rfl) (by rfl) (fun K hK => ?_)
      have HK := Lib.hid hK
      clear hK
      go_simp
      refine (step_any cur HC8.out rk wk _).mono ?_
      rintro e w7 ⟨rfl, hb7⟩
      have hK7 : Kept (· = P + 2) wr w7 := hHeld.trans (Kept.ofBelow hb7 (· = P + 2)) (fun i hi => .inl hi)
      have ha7 : ArrAt 29 w7 (P + 2) cur := had.below hb7
      have hHeldN := hK7
      refine HK.out _ _ hHeldN ?_
      clear HK K hHeld
      have hHeld := hHeldN
      clear hHeldN
      try simp only [Act.put, List.setIfInBounds_toArray, List.set_cons_zero, List.set_cons_succ]
      refine hStep 8 rfl (by kernel_rfl) (by rfl) (fun K hK => ?_)
      have HK := Lib.hid hK
      clear hK
      refine wp_store_arr info_8 (.tmp 8) (.tmp 29) rfl rfl (stepN cur rk wk) rfl HCL.out HNL.out ha7 ?_
      have hK8 : Kept (· = P + 2) wr (w7.setRow (P + 2) (arr (stepN cur rk wk))) := hHeld.trans (kept_setRow (U := (· = P + 2)) _ _ _ rfl) (fun i hi => .inl hi)
      have hHeldN := hK8
      refine HK.out _ _ hHeldN ?_
      clear HK K hHeld
      have hHeld := hHeldN
      clear hHeldN
      try simp only [Act.put]
      refine hDone (by kernel_rfl) ?_
      show NoPanic _ _ _ _
      refine NoPanic.normal ?_
      have HF : Hid (ArrAt 29 (w7.setRow (P + 2) (arr (stepN cur rk wk))) (P + 2) (stepN cur rk wk) ∧ Kept (· = P + 2) w6 (w7.setRow (P + 2) (arr (stepN cur rk wk)))) := ⟨ha7.row _, hkp.trans hHeld (fun i hi => .inl hi)⟩
      clear hHeld hK7 ha7 had hb7
      go_wp2
      go_roundw
      case rel => exact ⟨k + 1, by omega, by go_num, by rw [HNX.out]; exact HF.out.1, HF.out.2, Below.refl _ _⟩
      case measure => simp [intOf] <;> omega
    · have HK64 : Hid (k = 64) := by show _ = _; omega
      have hge : (64 : Int) ≤ (k : Int) := by omega
      obtain ⟨t, ht⟩ : ∃ t, t = stepsTo s (wordsN b) k := ⟨_, rfl⟩
      have HT := Lib.hid ht
      have HT8 : Hid (Is8 t) := by show Is8 t; rw [ht]; exact stepsTo_8 H8.out _ _
      have HTL := Lib.hid HT8.out.1
      have HAt : Hid (ArrAt 29 wr (P + 2) (mixN t s 0)) := by show ArrAt _ _ _ _; rw [mixN_0, ht]; exact HA.out
      have HBL : Hid (blockN s b = mixN t s 8) := by show _ = _; rw [mixN_8 HTL.out, ht, HK64.out]; rfl
      clear ht HA hlt
      rw [show (Value.int IntKind.i64 (k : Int)) = Value.int IntKind.i64 64 by rw [HK64.out]; rfl]
      go_wp2
      go_loopw [10, 31] (fun _ i w9 => ∃ k : Nat, k ≤ 8 ∧ i = .int .i64 (k : Int) ∧ ArrAt 29 w9 (P + 2) (mixN t s k) ∧ Kept (· = P + 2) w6 w9) (fun _ i _ => 8 - (intOf i).toNat)
      case atStart => exact ⟨0, Nat.zero_le _, rfl, HAt.out, hkp⟩
      case round =>
        obtain ⟨m, hm, rfl, hat, hkp9⟩ := hrel
        have HA9 := Lib.hid hat
        clear hat
        by_cases hlt : m < 8
        · have HSET := Lib.hid (mixN_set (s := s) HTL.out hlt)
          have HMA := Lib.hid (mixN_at (t := t) (s := s) hlt)
          have hck := HA9.out.cell (j := m) (by rw [mixN_len HTL.out hm]; exact hlt)
          have hfr := HA9.out.free m
          rw [HMA.out] at hck
          have LS : Hid (∀ w', Kept (· = P + 2) wr w' → w'.cell? ⟨G, m, none⟩ = some (.int .u32 ((s.getD m 0 : Nat) : Int))) := fun w' h =>
            (H60.out.kept (hkp9.trans h (fun i hi => .inl hi)) (by omega)).cell (by rw [H8.out.1]; exact hlt)
          obtain ⟨v, hv⟩ : ∃ v, v = (t.getD m 0 + s.getD m 0) % 4294967296 := ⟨_, rfl⟩
          rw [← hv] at HSET
          have A1 : Hid (IntKind.u32.wrap (((t.getD m 0 : Nat) : Int) + ((s.getD m 0 : Nat) : Int)) = (v : Int)) := by show _ = _; rw [add32, hv]
          have hki : (m : Int) < 8 := by omega
          generalize t.getD m 0 = tk at *
          generalize s.getD m 0 = sk at *
          clear hv
          go_wp2_with fail
          refine hStart (fun w' => Kept (· = P + 2) wr w') (by kernel_rfl) ?_
          have hHeld := Kept.drew (· = P + 2) wr
          have hck' : wr.drew.cell? ⟨P + 2, m, none⟩ = some (.int .u32 (tk : Int)) := hck
          refine hTake 0 (v := ?_) rfl (by kernel_rfl) (by kernel_rfl) (by kernel_rfl) (fun _ _ _ h => h) (by rfl) ?_ hHeld ?_
          rotate_left
          · intro w hSw; (try dsimp only at hSw); go_simp; (try with_reducible rfl)
          try simp only [Act.put, List.setIfInBounds_toArray, List.set_cons_zero, List.set_cons_succ]
          refine hTake 3 (v := ?_) rfl (by kernel_rfl) (by kernel_rfl) (by kernel_rfl) (fun _ _ _ h => h) (by rfl) ?_ hHeld ?_
          rotate_left
          · intro w hSw; (try dsimp only at hSw); go_simp; (try with_reducible rfl)
          try simp only [Act.put, List.setIfInBounds_toArray, List.set_cons_zero, List.set_cons_succ]
          refine hTake 1 (v := ?_) rfl (by kernel_rfl) (by kernel_rfl) (by kernel_rfl) (fun _ _ _ h => h) (by rfl) ?_ hHeld ?_
          rotate_left
          · intro w hSw; (try dsimp only at hSw); go_simp; (try with_reducible rfl)
          try simp only [Act.put, List.setIfInBounds_toArray, List.set_cons_zero, List.set_cons_succ]
          refine hTake 4 (v := ?_) rfl (by kernel_rfl) (by kernel_rfl) (by kernel_rfl) (fun _ _ _ h => h) (by rfl) ?_ hHeld ?_
          rotate_left
          · intro w hSw; (try dsimp only at hSw); go_simp; (try with_reducible rfl)
          try simp only [Act.put, List.setIfInBounds_toArray, List.set_cons_zero, List.set_cons_succ]
          refine hTake 5 (v := (.int .u32 (sk : Int))) rfl (by kernel_rfl) (by kernel_rfl) (by kernel_rfl) (fun _ _ _ h => h) (by rfl) ?_ hHeld ?_
          · intro w hSw; have h1 := LS.out w hSw; go_simp; (try with_reducible rfl)
          try simp only [Act.put, List.setIfInBounds_toArray, List.set_cons_zero, List.set_cons_succ]
          refine hStep 2 rfl (by kernel_rfl) (by rfl) (fun K hK => ?_)
          have HK := Lib.hid hK
          clear hK
          go_simp
          have hHeldN := hHeld
          refine HK.out _ _ hHeldN ?_
          clear HK K hHeld
          have hHeld := hHeldN
          clear hHeldN
          try simp only [Act.put, List.setIfInBounds_toArray, List.set_cons_zero, List.set_cons_succ]
          refine hTake 6 (v := (.int .u32 (v : Int))) rfl (by kernel_rfl) (by kernel_rfl) (by kernel_rfl) (fun _ _ _ h => h) (by rfl) ?_ hHeld ?_
          · intro w hSw; have h1 := A1.out; go_simp; (try with_reducible rfl)
          try simp only [Act.put, List.setIfInBounds_toArray, List.set_cons_zero, List.set_cons_succ]
          refine hTake 7 (v := ?_) rfl (by kernel_rfl) (by kernel_rfl) (by kernel_rfl) (fun _ _ _ h => h) (by rfl) ?_ hHeld ?_
          rotate_left
          · intro w hSw; (try dsimp only at hSw); go_simp; (try with_reducible rfl)
          try simp only [Act.put, List.setIfInBounds_toArray, List.set_cons_zero, List.set_cons_succ]
          refine hStep 8 rfl (by kernel_rfl) (by rfl) (fun K hK => ?_)
          have HK := Lib.hid hK
          clear hK
          go_simp
          have hK8 : Kept (· = P + 2) wr (wr.setCell ⟨P + 2, m, none⟩ (.int .u32 (v : Int))).drew := (Kept.setCell (T := (· = P + 2)) _ _ _ rfl).trans (Kept.drew (· = P + 2) _) (fun i hi => .inl hi)
          have hHeldN := hK8
          refine HK.out _ _ hHeldN ?_
          clear HK K hHeld
          have hHeld := hHeldN
          clear hHeldN
          try simp only [Act.put]
          refine hDone (by kernel_rfl) ?_
          show NoPanic _ _ _ _
          refine NoPanic.normal ?_
          have HF : Hid (ArrAt 29 (wr.setCell ⟨P + 2, m, none⟩ (.int .u32 (v : Int))).drew (P + 2) (mixN t s (m + 1)) ∧ Kept (· = P + 2) w6 (wr.setCell ⟨P + 2, m, none⟩ (.int .u32 (v : Int))).drew) := ⟨by rw [← HSET.out]; exact HA9.out.set m v, hkp9.trans hHeld (fun i hi => .inl hi)⟩
          clear hHeld hK8 hck hck' hfr
          go_wp2
          go_roundw
          case rel => exact ⟨m + 1, by omega, by go_num, HF.out.1, HF.out.2⟩
          case measure => simp [intOf] <;> omega
        · obtain rfl : m = 8 := by omega
          have HB8 : Hid (ArrAt 29 wr (P + 2) (blockN s b)) := by show ArrAt _ _ _ _; rw [HBL.out]; exact HA9.out
          have HB1 : Hid (ArrAt 29 wr (G + 1) [0, 0, 0, 0, 0, 0, 0, 0]) := H61.out.kept hkp9 (by omega)
          have HL8' := Lib.hid (blockN_8 s b).1
          have hbF : Below w.heap.size w wr := hbw6.trans (hkp9.below hbw6.size (fun i hi => by omega))
          go_wp2_with (first
            | (with_reducible refine wpList_load_arr (T := 29) under_8 info_8 rfl (.tmp 8) rfl rfl HL8'.out HB8.out ?_)
            | (with_reducible refine wpList_store_arr (T := 29) (n := 8) info_8 rfl (.tmp 4) (.tmp 43) rfl rfl (blockN s b) rfl rfl HL8'.out HB1.out ?_))
          refine bodyPost_ret (results_arr_tmp (T := 29) under_8 info_8 rfl _ rfl HL8'.out (HB1.out.row (blockN s b))) rfl ⟨rfl, ?_⟩
          exact below_setRow hbF (by have := HG.out; omega) _
end Go.Proofs.Ytegeglnfpddgfaa
