/- The walk of the document's Hash. -/
import Derived.Test.YtegeglnfpddgfaaShaRBlock
namespace Go.Proofs.Ytegeglnfpddgfaa
open Go.RowKit

/-- The list L, into which j of the four bytes of the word v are laid from q on, the last one first. -/
def padI (L : List UInt8) (q v : Nat) : Nat → List UInt8
  | 0 => L
  | j + 1 => (padI L q v j).set (q + (3 - j)) (UInt8.ofNat (v / 256 ^ j % 256))
theorem padI_len (L : List UInt8) (q v : Nat) : ∀ j, (padI L q v j).length = L.length
  | 0 => rfl
  | j + 1 => by rw [padI, List.length_set, padI_len L q v j]
theorem padI_4 {s : List Nat} (hs : s.length = 8) {k : Nat} (hk : k < 8) : padI (padB s k) (4 * k) (s.getD k 0) 4 = padB s (k + 1) := by
  rw [← padB_step hs hk _ _ _ _ rfl]
  simp only [padI]
  rw [show 3 - 3 = 0 from rfl, show 3 - 2 = 1 from rfl, show 3 - 1 = 2 from rfl, show 3 - 0 = 3 from rfl, show 256 ^ 0 = 1 from rfl, show 256 ^ 1 = 256 from rfl, show 256 ^ 2 = 65536 from rfl, show 256 ^ 3 = 16777216 from rfl, Nat.div_one]
  rw [List.set_comm _ _ (show 4 * k + 3 ≠ 4 * k + 2 by omega), List.set_comm _ _ (show 4 * k + 3 ≠ 4 * k + 1 by omega), List.set_comm _ _ (show 4 * k + 2 ≠ 4 * k + 1 by omega)]
  rw [List.set_comm _ _ (show 4 * k + 3 ≠ 4 * k + 0 by omega), List.set_comm _ _ (show 4 * k + 2 ≠ 4 * k + 0 by omega), List.set_comm _ _ (show 4 * k + 1 ≠ 4 * k + 0 by omega)]
  rfl

set_option maxRecDepth 100000 in
set_option maxHeartbeats 2000000 in
theorem refHash_any (a : Option Addr) (b : List UInt8) (n cap : Nat) (w : World) (hn : n = b.length) (hb : Bs w a cap b) (hnn : n ≤ 100000000) :
    Calls Try.prog 7 #[.slice a n cap] w fun e w' => e = .returned (.agg (arrB (hashN b))) ∧ Below w.heap.size w w' := by
  have HN := Lib.hid hn
  have HB := Lib.hid hb
  obtain ⟨G, hG⟩ : ∃ G, G = w.heap.size := ⟨_, rfl⟩
  have HG := Lib.hid hG
  have HRL : Hid (([] : List UInt8).length + n ≤ 140737488355328) := by show _ ≤ _; simp; omega
  clear hn hb hG
  go_enter Try.func7, Try.ntmps7
  go_wp2_with (first
    | ((with_reducible refine wpList_alloc32n rfl rfl G HG.out ?_); intro w1 hat1 hb1; have hbw1 : Below w.heap.size w w1 := HG.out ▸ hb1; have hG1 : G < w1.heap.size := hat1.out.lt)
    | (at_builtin; refine wpList_append_w rfl (.tmp 10) (.tmp 11) rfl w1.heap.size (.slice (some ⟨w1.heap.size, 0, none⟩) 0 0) [] rfl (OwnW.none0 w1 _ (Nat.le_refl _)) a n cap b rfl HN.out (HB.out.below (hbw1.alloc hbw1.size _)) HRL.out (by simp) ?_; intro v2 w2 hown2 hk2 hnear2; obtain ⟨a2, c2, n2, hv2, -, -, -, -⟩ := hown2.bsn; subst hv2; have hb12 : Below w1.heap.size w1 w2 := ((Below.refl _ _).alloc (Nat.le_refl _) _).trans (hk2.below (by simp) (fun i hi => by simp [Value.ownBlock] at hi; omega))))
  rw [List.nil_append] at hown2
  obtain ⟨B, hB⟩ : ∃ B, B = w1.heap.size := ⟨_, rfl⟩
  rw [← hB] at hown2 hb12 hG1
  have HGB := Lib.hid hG1
  have HO2 := Lib.hid hown2
  have HB12 := Lib.hid hb12
  have HAT1 : Hid (ArrBAt 24 w1 G b32) := hat1
  have HBW1 := Lib.hid hbw1
  have HBB := Lib.hid hB
  clear hk2 hnear2 hb1 hown2 hb12 hG1 hat1 hbw1 hB
  refine (refFill_any n _ hnn).mono ?_
  rintro e w3 ⟨x3, rfl, hx3, hb3⟩
  obtain ⟨a3, c3, n3, hv3, hn3, hbs3⟩ := hx3.toW
  subst hv3
  have hb13 : Below B w1 w3 := HB12.out.trans (hb3.mono (by have := HB12.out.size; have := HBB.out; omega))
  have HO3 : Hid (OwnW B w3 (.slice a2 n2 c2) b) := HO2.out.below hb3
  have HRM : Hid (b.length + n3 ≤ 140737488355328) := by
    show _ ≤ _
    have h1 := HN.out
    have h2 : (fillN n).length ≤ 80 := by rw [fillN_len]; unfold zerosN; omega
    omega
  have HN3 := Lib.hid hn3
  have HBS3 := Lib.hid hbs3
  have hbase3 : B ≤ w3.heap.size := by have := hb13.size; have := HBB.out; omega
  have HZ8 : Hid (([0, 0, 0, 0, 0, 0, 0, 0] : List Nat).length = 8) := Lib.hid rfl
  have HF8 : Hid (begin8.length = 8) := Lib.hid rfl
  have hBw : w.heap.size ≤ B := by have := HBB.out; have := HBW1.out.size; omega
  have HFL : Hid ((b ++ fillN n).length ≤ 100000090) := by
    show _ ≤ _
    have h2 : (fillN n).length ≤ 80 := by rw [fillN_len]; unfold zerosN; omega
    rw [List.length_append]; have := HN.out; omega
  clear hx3 hn3 hbs3 hb3
  go_wp2_with (first
    | (at_builtin; refine wpList_append_w rfl (.tmp 13) (.tmp 16) rfl B (.slice a2 n2 c2) b rfl HO3.out a3 n3 c3 (fillN n) rfl HN3.out HBS3.out HRM.out hbase3 ?_; intro v4 w4 hown4 hk4 hnear4; obtain ⟨a4, c4, n4, hv4, hn4, hbs4, ho4, hx4⟩ := hown4.bsn; subst hv4; have HN4 := Lib.hid hn4; clear hn4; have hb14 : Below B w1 w4 := hb13.trans (hk4.below hbase3 (fun i hi => (HO3.out.lt i hi).1))))
  obtain ⟨F, hF⟩ : ∃ F, F = b ++ fillN n := ⟨_, rfl⟩
  rw [← hF] at HN4 hbs4 HFL
  have HBS4 := Lib.hid hbs4
  have hX4 : ∀ x, a4 = some x → x.block < w4.heap.size := fun x hx => (hx4 x hx).2
  have HX4 := Lib.hid hX4
  have HFF := Lib.hid hF
  have HB14 := Lib.hid hb14
  have hbase4 : B ≤ w4.heap.size := Nat.le_trans (Nat.le_of_eq HBB.out) hb14.size
  clear hbs4 ho4 hx4 hX4 hF hb14 hown4 hk4 hnear4 HO3 HO2 HB12 hb13
  refine (first_any _).mono ?_
  rintro e w5 ⟨rfl, hb5⟩
  have HB5 := Lib.hid hb5
  clear hb5
  go_wp2_with (first
    | ((with_reducible refine wpList_alloc8n rfl rfl ?_); intro w6 P hP hat6 hb6; have HPP := Lib.hid hP; clear hP)
    | ((with_reducible refine wpList_store_arrn (T := 29) (n := 8) info_8 rfl (.tmp 4) (.tmp 18) rfl rfl begin8 rfl HZ8.out HF8.out hat6.out ?_); intro w7 hat7 hk7))
  have hP := HPP.out
  have hb57 : Below w5.heap.size w5 w7 := hb6.trans (hk7.below hb6.size (fun i hi => by omega))
  have hb47 : Below w4.heap.size w4 w7 := HB5.out.trans (hb57.mono HB5.out.size)
  have HBS7 := Lib.hid (HBS4.out.below hb47)
  have HX7 : Hid (∀ x, a4 = some x → x.block ≠ P) := fun x hx => by have := HX4.out x hx; have := HB5.out.size; omega
  have HB17 : Hid (Below B w1 w7) := HB14.out.trans (hb47.mono hbase4)
  have HP : Hid (B ≤ P) := by show _ ≤ _; have := HB5.out.size; omega
  have HAT7 : Hid (ArrAt 29 w7 P begin8) := hat7
  clear hb57 hb47 hat7 hk7 hP hat6 hb6 HPP HB5 HX4 HBS4 HB14
  try simp only [Act.put, List.setIfInBounds_toArray, List.set_cons_zero, List.set_cons_succ]
  go_loopw [5] (fun i wr => ∃ (k : Nat) (s' : List Nat), 64 * k ≤ F.length + 64 ∧ i = .int .i64 ((64 * k : Nat) : Int) ∧ ArrAt 29 wr P s' ∧ Is8 s' ∧ runN s' (F.drop (64 * k)) = runN begin8 F ∧ Kept (· = P) w7 wr) (fun i _ => n4 + 128 - (intOf i).toNat)
  case atStart => exact ⟨0, begin8, by omega, rfl, HAT7.out, begin8_8, rfl, Kept.refl _ _⟩
  case round =>
    obtain ⟨k, s', hk, rfl, hat, h8, hrun, hkp⟩ := hrel
    have HAT := Lib.hid hat
    have H8 := Lib.hid h8
    have HRUN := Lib.hid hrun
    have HKP := Lib.hid hkp
    have HL8 := Lib.hid h8.1
    clear hat h8 hrun hkp
    have hKw7 : P < w7.heap.size := HAT7.out.lt
    have hszr : w7.heap.size ≤ wr.heap.size := HKP.out.size
    have hb7r : Below B w7 wr := HKP.out.below (by have := HP.out; omega) (fun i hi => by have := HP.out; omega)
    have HB7R := Lib.hid hb7r
    have hfl := HFL.out
    have hnf := HN4.out
    have hkn : 64 * k ≤ n4 + 64 := by omega
    have hn4l : n4 ≤ 100000090 := by omega
    have HNF := Lib.hid hnf
    clear hb7r hfl hnf
    by_cases hge : 64 * k + 64 ≤ n4
    · obtain ⟨i, hi⟩ : ∃ i, i = 64 * k := ⟨_, rfl⟩
      obtain ⟨i2, hi2⟩ : ∃ i2, i2 = i + 64 := ⟨_, rfl⟩
      rw [← hi]
      have HI2 : Hid (IntKind.i64.wrap ((i : Int) + 64) = (i2 : Int)) := by show _ = _; rw [IntKind.wrap_i64]; omega
      have hle : (i : Int) + 64 ≤ (n4 : Int) := by omega
      obtain ⟨A5, hA5⟩ : ∃ A5, A5 = cutA a4 c4 i := ⟨_, rfl⟩
      obtain ⟨c5, hc5⟩ : ∃ c5, c5 = c4 - i := ⟨_, rfl⟩
      have hcap : n4 ≤ c4 := by have := HBS7.out.le; have := HNF.out; omega
      have HCUT : Hid (∀ w' : World, (Instr.sliceAt 22 (.slice a4 n4 c4) (some (.int .i64 (i : Int))) (some (.int .i64 (i2 : Int))) none).run Try.prog w' = .ok (.slice A5 64 c5) w') := fun w' => by
        rw [hA5, hc5]
        have h1 := run_cut w' a4 n4 c4 i i2 (by omega) (by omega)
        rw [show i2 - i = 64 by omega] at h1
        exact h1
      obtain ⟨blk, hblk⟩ : ∃ blk, blk = (F.take i2).drop i := ⟨_, rfl⟩
      have HBK : Hid (∀ w', Kept (· = P) w7 w' → Bs w' A5 c5 blk) := fun w' h => by
        rw [hA5, hc5, hblk]; exact (HBS7.out.kept h HX7.out).cut (by omega) (by have := HNF.out; omega)
      have hbl : 64 = blk.length := by rw [hblk, List.length_drop, List.length_take]; have := HNF.out; omega
      have HBL := Lib.hid hbl
      have HBLK := Lib.hid hblk
      have HI := Lib.hid hi
      have HII := Lib.hid hi2
      clear hblk hbl hA5 hc5 hi hi2 hge
      go_wp2_with fail
      refine hStart (fun w' => True) (by kernel_rfl) ?_
      have hHeld := True.intro
      have hbd : Below wr.heap.size wr wr.drew := (Below.refl _ _).drew
      refine hTake 1 (v := ?_) rfl (by kernel_rfl) (by kernel_rfl) (by kernel_rfl) (fun _ _ _ h => h) (by rfl) ?_ hHeld ?_
      rotate_left
      · intro w hSw; (try dsimp only at hSw); go_simp; (try with_reducible rfl)
      try simp only [Act.put, List.setIfInBounds_toArray, List.set_cons_zero, List.set_cons_succ]
      refine hTake 2 (v := ?_) rfl (by kernel_rfl) (by kernel_rfl) (by kernel_rfl) (fun _ _ _ h => h) (by rfl) ?_ hHeld ?_
      rotate_left
      · intro w hSw; (try dsimp only at hSw); go_simp; (try with_reducible rfl)
      try simp only [Act.put, List.setIfInBounds_toArray, List.set_cons_zero, List.set_cons_succ]
      refine hTake 3 (v := ?_) rfl (by kernel_rfl) (by kernel_rfl) (by kernel_rfl) (fun _ _ _ h => h) (by rfl) ?_ hHeld ?_
      rotate_left
      · intro w hSw; (try dsimp only at hSw); go_simp; (try with_reducible rfl)
      try simp only [Act.put, List.setIfInBounds_toArray, List.set_cons_zero, List.set_cons_succ]
      refine hTake 4 (v := (.int .i64 (i2 : Int))) rfl (by kernel_rfl) (by kernel_rfl) (by kernel_rfl) (fun _ _ _ h => h) (by rfl) ?_ hHeld ?_
      · intro w hSw; have h1 := HI2.out; go_simp; (try with_reducible rfl)
      try simp only [Act.put, List.setIfInBounds_toArray, List.set_cons_zero, List.set_cons_succ]
      refine hTake 5 (v := (.slice A5 64 c5)) rfl (by kernel_rfl) (by kernel_rfl) (by kernel_rfl) (fun _ _ _ h => h) (by rfl) ?_ hHeld ?_
      · intro w hSw; have h1 := HCUT.out w; go_simp; (try with_reducible rfl)
      try simp only [Act.put, List.setIfInBounds_toArray, List.set_cons_zero, List.set_cons_succ]
      refine hStep 0 rfl (by kernel_rfl) (by rfl) (fun K hK => ?_)
      have HK := Lib.hid hK
      clear hK
      refine wp_load_arr (T := 29) under_8 info_8 (.tmp 4) rfl rfl HL8.out (HAT.out.below hbd) ?_
      have hHeldN := hHeld
      refine HK.out _ _ hHeldN ?_
      clear HK K hHeld
      have hHeld := hHeldN
      clear hHeldN
      try simp only [Act.put, List.setIfInBounds_toArray, List.set_cons_zero, List.set_cons_succ]
      refine hStep 6 rfl (by kernel_rfl) (by rfl) (fun K hK => ?_)
      have HK := Lib.hid hK
      clear hK
      go_simp
      refine (refBlock_any s' H8.out A5 blk 64 c5 _ HBL.out rfl (HBK.out _ (HKP.out.trans (Kept.drew _ _) (fun i hi => .inl hi)))).mono ?_
      rintro e w8 ⟨rfl, hb8⟩
      have hbr8 : Below wr.heap.size wr w8 := hbd.trans (hb8.mono hbd.size)
      have hHeldN := hHeld
      refine HK.out _ _ hHeldN ?_
      clear HK K hHeld
      have hHeld := hHeldN
      clear hHeldN
      try simp only [Act.put, List.setIfInBounds_toArray, List.set_cons_zero, List.set_cons_succ]
      refine hStep 7 rfl (by kernel_rfl) (by rfl) (fun K hK => ?_)
      have HK := Lib.hid hK
      clear hK
      refine wp_store_arrn (T := 29) (n := 8) info_8 (.tmp 4) (.tmp 32) rfl rfl (blockN s' blk) rfl HL8.out (blockN_8 s' _).1 (HAT.out.below hbr8) ?_
      intro w9 hat9 hk9
      have hHeldN := hHeld
      refine HK.out _ _ hHeldN ?_
      clear HK K hHeld
      have hHeld := hHeldN
      clear hHeldN
      try simp only [Act.put]
      refine hDone (by kernel_rfl) ?_
      show NoPanic _ _ _ _
      refine NoPanic.normal ?_
      have hkp9 : Kept (· = P) w7 w9 := (HKP.out.trans (Kept.ofBelow hbr8 (· = P)) (fun i hi => .inl hi)).trans hk9 (fun i hi => .inl hi)
      have hrun9 : runN (blockN s' blk) (F.drop i2) = runN begin8 F := by
        rw [← HRUN.out, runN_ge (l := F.drop (64 * k)) (by rw [List.length_drop]; have := HNF.out; have := HI.out; have := HII.out; omega), ← HI.out, HBLK.out, List.drop_drop, HII.out]
        congr 2
        rw [List.drop_take, show i + 64 - i = 64 by omega]
      have HKP9 := Lib.hid hkp9
      have HRUN9 := Lib.hid hrun9
      clear hkp9 hrun9 hk9 hbr8 hb8 hHeld hbd
      have hi3 : (i : Int) + 64 = (i2 : Int) := by have := HII.out; omega
      have hi4 : i2 = 64 * (k + 1) := by have := HII.out; have := HI.out; omega
      have HI4 := Lib.hid hi4
      have HI3 := Lib.hid hi3
      clear hi3 hi4
      go_wp2
      go_roundw
      case rel => exact ⟨k + 1, _, by have := HI4.out; have := HNF.out; have := HII.out; omega, by rw [← HI4.out, ← HI3.out], hat9.out, blockN_8 s' _, by rw [← HI4.out]; exact HRUN9.out, HKP9.out⟩
      case measure => simp [intOf] <;> omega
    · have HE : Hid (bytesN s' = hashN b) := by
        show _ = _
        unfold hashN
        have h1 := HN.out
        rw [← h1, ← HFF.out, ← HRUN.out, runN_lt (by rw [List.length_drop]; have := HNF.out; omega)]
      obtain ⟨i, hi⟩ : ∃ i, i = 64 * k := ⟨_, rfl⟩
      rw [← hi]
      have hgt : ¬ (i : Int) + 64 ≤ (n4 : Int) := by omega
      have hil : (i : Int) ≤ 1000000000 := by omega
      have HATG := Lib.hid ((HAT1.out.below (HB17.out.mono (Nat.le_of_eq HBB.out.symm))).kept HKP.out (by have := HGB.out; have := HP.out; omega))
      have hbwr : Below w.heap.size w wr := (HBW1.out.trans (HB17.out.mono hBw)).trans (HB7R.out.mono hBw)
      have HBWR := Lib.hid hbwr
      have hPr : P < wr.heap.size := HAT.out.lt
      have hGP : G < P := by have := HGB.out; have := HP.out; omega
      have hwG : w.heap.size ≤ G := by have := HG.out; omega
      have HV8 := Lib.hid H8.out.2
      clear hi hbwr
      go_wp2_with (first
        | ((with_reducible refine wpList_alloc32n rfl rfl wr.heap.size rfl ?_); intro wo hato hbo))
      have HATO : Hid (ArrBAt 24 wo wr.heap.size b32) := hato
      obtain ⟨O, hO⟩ : ∃ O, O = wr.heap.size := ⟨_, rfl⟩
      have HATS := Lib.hid (HAT.out.below hbo)
      have HATG2 := Lib.hid (HATG.out.below hbo)
      have HBWO := Lib.hid (HBWR.out.trans (hbo.mono HBWR.out.size))
      rw [← hO] at HATO hPr ⊢
      have hGO : G < O := by omega
      have hOl : O < wo.heap.size := HATO.out.lt
      clear hO hbo hato HATG HAT HBWR
      go_loopw [7, 8, 9] (fun i _ _ wr => ∃ k : Nat, k ≤ 8 ∧ i = .int .i64 (k : Int) ∧ ArrBAt 24 wr O (padB s' k) ∧ Kept (· = O) wo wr) (fun i _ _ _ => 8 - (intOf i).toNat)
      case atStart => exact ⟨0, Nat.zero_le _, rfl, by rw [padB_0]; exact HATO.out, Kept.refl _ _⟩
      case round =>
        obtain ⟨k, hk8, rfl, hat, hkp⟩ := hrel
        have HA := Lib.hid hat
        have HKO := Lib.hid hkp
        clear hat hkp
        by_cases hlt : k < 8
        · have hv := getD_lt32 HV8.out k
          have hld : wr.cell? ⟨P, k, none⟩ = some (.int .u32 ((s'.getD k 0 : Nat) : Int)) := (HATS.out.kept HKO.out (by omega)).cell (by rw [HL8.out]; exact hlt)
          have HST := Lib.hid (padI_4 HL8.out hlt)
          have HPL := Lib.hid (padB_len HL8.out hk8)
          have hki : (k : Int) < 8 := by omega
          generalize s'.getD k 0 = v at *
          go_wp2_with fail
          clear hld
          go_loopw [8, 9] (fun x j wr => ∃ t : Nat, t ≤ 4 ∧ x = .int .u32 ((v / 256 ^ t : Nat) : Int) ∧ j = .int .i64 (3 - (t : Int)) ∧ ArrBAt 24 wr O (padI (padB s' k) (4 * k) v t) ∧ Kept (· = O) wo wr) (fun _ j _ => (intOf j + 1).toNat)
          case atStart => exact ⟨0, Nat.zero_le _, by simp, rfl, HA.out, HKO.out⟩
          case round =>
            clear HA HKO
            obtain ⟨t, ht, rfl, rfl, hat, hkp⟩ := hrel
            have HA := Lib.hid hat
            have HKO := Lib.hid hkp
            clear hat hkp
            by_cases ht4 : t < 4
            · obtain ⟨j, hj⟩ : ∃ j, j = 3 - t := ⟨_, rfl⟩
              have hji : (3 : Int) - (t : Int) = (j : Int) := by omega
              rw [hji]
              have HNI : Hid (padI (padB s' k) (4 * k) v (t + 1) = (padI (padB s' k) (4 * k) v t).set (4 * k + (3 - t)) (UInt8.ofNat (v / 256 ^ t % 256))) := Lib.hid rfl
              have HVD : Hid (v / 256 ^ (t + 1) = v / 256 ^ t / 256) := by show _ = _; rw [Nat.pow_succ, Nat.div_div_eq_div_mul]
              have hVl : v / 256 ^ t < 4294967296 := Nat.lt_of_le_of_lt (Nat.div_le_self _ _) hv
              rw [← hj] at HNI
              obtain ⟨q0, hq0⟩ : ∃ q, q = 4 * k := ⟨_, rfl⟩
              obtain ⟨q, hq⟩ : ∃ q, q = q0 + j := ⟨_, rfl⟩
              rw [← hq0, ← hq] at HNI
              rw [← hq0] at HA
              have HJL : Hid (q < (padI (padB s' k) q0 v t).length) := by show _ < _; rw [padI_len, HPL.out]; omega
              have hI0 : 4 * (k : Int) = (q0 : Int) := by omega
              have hI1 : (q0 : Int) + (j : Int) = (q : Int) := by omega
              have hq32 : (q : Int) < 32 := by omega
              have hj3 : (j : Int) ≤ 3 := by omega
              have hq028 : (q0 : Int) ≤ 28 := by omega
              have hjt : (j : Int) - 1 = 3 - ((t + 1 : Nat) : Int) := by omega
              generalize v / 256 ^ t = V at *
              obtain ⟨d, hd⟩ : ∃ d, d = UInt8.ofNat (V % 256) := ⟨_, rfl⟩
              rw [← hd] at HNI
              have hdv : (V : Int) % 256 = (d.toNat : Int) := by rw [hd]; simp
              have hdl : (d.toNat : Int) < 256 := by have := d.toNat_lt; omega
              have HJT := Lib.hid hjt
              have HMQ : Hid (q0 = 4 * k) := hq0
              clear hd hq hq0 hj hjt hji
              go_wp2_with (first
                | ((with_reducible refine wpList_storeB1 (T := 24) rfl (.tmp 51) (.tmp 50) rfl q rfl d (.int .u8 (d.toNat : Int)) rfl rfl HA.out HJL.out ?_); intro wa ha ka; (try simp only [Act.put])))
              have HKA := Lib.hid (HKO.out.trans ka.out (fun i hi => .inl hi))
              have HAA : Hid (ArrBAt 24 wa O (padI (padB s' k) (4 * k) v (t + 1))) := by show ArrBAt _ _ _ _; rw [← HMQ.out, HNI.out]; exact ha.out
              clear ha ka
              go_roundw
              case rel => exact ⟨t + 1, by omega, by rw [HVD.out]; simp, by rw [← HJT.out], HAA.out, HKA.out⟩
              case measure => simp [intOf] <;> omega
            · have ht5 : t = 4 := by omega
              have HN5 : Hid (ArrBAt 24 wr O (padB s' (k + 1))) := by show ArrBAt _ _ _ _; rw [← HST.out]; have h := HA.out; rw [ht5] at h; exact h
              rw [show (Value.int IntKind.i64 (3 - (t : Int))) = Value.int IntKind.i64 (-1) by rw [ht5]; rfl]
              clear ht5 ht4 HA
              go_wp2
              go_roundw
              case rel => exact ⟨k + 1, by omega, by go_num, HN5.out, HKO.out⟩
              case measure => simp [intOf] <;> omega
        · have hk9 : k = 8 := by omega
          have HO8 : Hid (ArrBAt 24 wr O (hashN b)) := by show ArrBAt _ _ _ _; rw [← HE.out, ← padB_8 HL8.out, ← hk9]; exact HA.out
          have HATG3 := Lib.hid (HATG2.out.kept HKO.out (by omega))
          have HBF := Lib.hid (HBWO.out.trans (HKO.out.below HBWO.out.size (fun i hi => by omega)))
          have HLB : Hid ((hashN b).length = 32) := hashN_len b
          rw [show (Value.int IntKind.i64 (k : Int)) = Value.int IntKind.i64 8 by rw [hk9]; rfl]
          clear hk9 hlt HA
          go_wp2_with (first
            | (with_reducible refine wpList_loadB (T := 24) under_32 info_32 rfl (.tmp 6) rfl rfl HLB.out HO8.out ?_)
            | (with_reducible refine wpList_storeB (T := 24) (n := 32) info_32 rfl (.tmp 2) (.tmp 54) rfl rfl (hashN b) rfl b32_len HLB.out HATG3.out ?_))
          refine bodyPost_ret (results_arrB (T := 24) under_32 info_32 rfl _ rfl HLB.out (HATG3.out.row (hashN b))) rfl ⟨rfl, ?_⟩
          exact below_setRow HBF.out hwG _
end Go.Proofs.Ytegeglnfpddgfaa
