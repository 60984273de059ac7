/- The walk of the law VarintBack: it returns true, and leaves what was there as it was. -/
import Derived.Test.YthicaomghefedaaLaw2Awake
namespace Go.Proofs.Ythicaomghefedaa
open Go.RowKit

set_option maxRecDepth 100000 in
set_option maxHeartbeats 4000000 in
theorem VarintBack_walk (a : Option Addr) (ls : List Nat) (m cap : Nat) (n : Int) (a2 : Option Addr) (L : List UInt8) (m2 cap2 : Nat) (w : World) (hm : m = ls.length) (hb : Ns w a cap ls) (hn : -9223372036854775808 ≤ n ∧ n ≤ 9223372036854775807)
    (hm2 : m2 = L.length) (hb2 : Bs w a2 cap2 L) :
    Calls Try.prog 7 #[.slice a m cap, .int .i64 n, .slice a2 m2 cap2] w fun e w' => e = .returned (.bool true) ∧ Below w.heap.size w w' := by
  have hf := hb.fits hm
  have hf2 := hb2.fits hm2
  have HM := Lib.hid hm
  have HB := Lib.hid hb
  have HM2 := Lib.hid hm2
  have HB2 := Lib.hid hb2
  obtain ⟨hn1, hn2⟩ := hn
  clear hm hb hm2 hb2
  by_cases h1 : 40 < m
  · go_enter Try.func7, Try.ntmps7
    go_wp2_with (go_at_call 25; refine (awake2 _).mono ?_; rintro e w1 ⟨rfl, hb1⟩)
    go_ret
    exact ⟨rfl, hb1⟩
  by_cases h2 : 40 < m2
  · go_enter Try.func7, Try.ntmps7
    go_wp2_with (go_at_call 25; refine (awake2 _).mono ?_; rintro e w1 ⟨rfl, hb1⟩)
    go_ret
    exact ⟨rfl, hb1⟩
  have hfl : (flatV ls).length ≤ 400 := by have := (flatV_len HB.out.small).2; have := HM.out; omega
  have HFL := Lib.hid hfl
  have HP1 : Hid (parseR (m : Int) (flatV ls) = some ls) := by
    show _ = _
    unfold parseR
    have := parseV_flat ls [] HB.out.small
    rw [List.append_nil, ← HM.out, if_pos rfl] at this
    rw [if_neg (by omega), Int.toNat_natCast, this]
  have HP3 : Hid (parseR (m : Int) (flatV ls ++ L) = if L = [] then some ls else none) := by
    show _ = _
    unfold parseR
    have := parseV_flat ls L HB.out.small
    rw [← HM.out] at this
    rw [if_neg (by omega), Int.toNat_natCast, this]
  have HP2 : Hid (n ≠ (m : Int) → parseR n (flatV ls) = none) := fun h => by
    unfold parseR
    by_cases h0 : n < 0
    · rw [if_pos h0]
    · rw [if_neg h0]
      exact parseV_other HB.out.small (by have := HM.out; omega)
  clear hfl
  go_enter Try.func7, Try.ntmps7
  go_wp2_with fail
  refine (List_any a ls m cap _ HM.out (by omega) HB.out).mono ?_
  rintro e w1 ⟨y1, rfl, hoy, hb1⟩
  obtain ⟨ay, cy, ny, hvy, hny, hby, -, -⟩ := hoy.bsn
  subst hvy
  have HBY := Lib.hid hby
  have HNY := Lib.hid hny
  clear hoy hby hny
  go_wp2_with fail
  refine (Parse_any ay (flatV ls) ny cy (m : Int) _ HNY.out (by have := HFL.out; have := HNY.out; omega) HBY.out (by omega) (by omega)).mono ?_
  rintro e w2 ⟨⟨x, rfl, hox⟩, hb2⟩
  rw [HP1.out] at hox ⊢
  obtain ⟨ax, cx, nx, hvx, hnx, hbx, -, -⟩ := OwnN.bsn (l := ls) hox HB.out.small
  subst hvx
  have hnx2 : nx = m := by rw [hnx, HM.out]
  subst hnx2
  have HBX := Lib.hid hbx
  have hbw2 : Below w.heap.size w w2 := hb1.trans (hb2.mono hb1.size)
  clear hox hnx hbx hb1 hb2 HBY HNY
  go_wp2
  go_loopw [9] (fun i wr => ∃ k : Nat, k ≤ nx ∧ i = .int .i64 (k : Int) ∧ Below w2.heap.size w2 wr) (fun i _ => nx - (intOf i).toNat)
  case atStart => exact ⟨0, Nat.zero_le _, rfl, Below.refl _ _⟩
  case round =>
    obtain ⟨k, hk, rfl, hbr⟩ := hrel
    have hbwr : Below w.heap.size w wr := hbw2.trans (hbr.mono hbw2.size)
    by_cases hlt : k < nx
    · obtain ⟨b1, o1, rfl, hc1, hl1, hv⟩ := HBX.out.at (k := k) (by have := HM.out; omega)
      obtain ⟨b2, o2, rfl, hc2, hl2, -⟩ := HB.out.at (k := k) (by have := HM.out; omega)
      generalize ls.getD k 0 = v at *
      have HC1 : Hid (∀ w', Below w2.heap.size w2 w' → w'.cell? ⟨b1, o1 + k, none⟩ = some (.int .u64 (v : Int))) := fun w' h => by rw [h.cell hl1]; exact hc1
      have HC2 : Hid (∀ w', Below w2.heap.size w2 w' → w'.cell? ⟨b2, o2 + k, none⟩ = some (.int .u64 (v : Int))) := fun w' h => by rw [(hbw2.trans (h.mono hbw2.size)).cell hl2]; exact hc2
      clear hc1 hc2
      go_wp2_with fail
      refine hStart (fun w' => Below w2.heap.size w2 w') (by kernel_rfl) ?_
      have hHeld := hbr.drew
      refine hTake 0 (v := ?_) rfl (by kernel_rfl) (by kernel_rfl) (by kernel_rfl) (fun _ _ _ h => h) (by rfl) ?_ hHeld ?_
      rotate_left
      · intro w hSw; (try dsimp only at hSw); go_simp; (try with_reducible rfl)
      try simp only [Act.put, List.setIfInBounds_toArray, List.set_cons_zero, List.set_cons_succ]
      refine hTake 1 (v := ?_) rfl (by kernel_rfl) (by kernel_rfl) (by kernel_rfl) (fun _ _ _ h => h) (by rfl) ?_ hHeld ?_
      rotate_left
      · intro w hSw; (try dsimp only at hSw); go_simp; (try with_reducible rfl)
      try simp only [Act.put, List.setIfInBounds_toArray, List.set_cons_zero, List.set_cons_succ]
      refine hTake 2 (v := ?_) rfl (by kernel_rfl) (by kernel_rfl) (by kernel_rfl) (fun _ _ _ h => h) (by rfl) ?_ hHeld ?_
      rotate_left
      · intro w hSw; (try dsimp only at hSw); go_simp; (try with_reducible rfl)
      try simp only [Act.put, List.setIfInBounds_toArray, List.set_cons_zero, List.set_cons_succ]
      refine hTake 3 (v := (.int .u64 (v : Int))) rfl (by kernel_rfl) (by kernel_rfl) (by kernel_rfl) (fun _ _ _ h => h) (by rfl) ?_ hHeld ?_
      · intro w hSw; have h1 := HC1.out w hSw; go_simp; (try with_reducible rfl)
      try simp only [Act.put, List.setIfInBounds_toArray, List.set_cons_zero, List.set_cons_succ]
      refine hTake 4 (v := ?_) rfl (by kernel_rfl) (by kernel_rfl) (by kernel_rfl) (fun _ _ _ h => h) (by rfl) ?_ hHeld ?_
      rotate_left
      · intro w hSw; (try dsimp only at hSw); go_simp; (try with_reducible rfl)
      try simp only [Act.put, List.setIfInBounds_toArray, List.set_cons_zero, List.set_cons_succ]
      refine hTake 5 (v := ?_) rfl (by kernel_rfl) (by kernel_rfl) (by kernel_rfl) (fun _ _ _ h => h) (by rfl) ?_ hHeld ?_
      rotate_left
      · intro w hSw; (try dsimp only at hSw); go_simp; (try with_reducible rfl)
      try simp only [Act.put, List.setIfInBounds_toArray, List.set_cons_zero, List.set_cons_succ]
      refine hTake 6 (v := ?_) rfl (by kernel_rfl) (by kernel_rfl) (by kernel_rfl) (fun _ _ _ h => h) (by rfl) ?_ hHeld ?_
      rotate_left
      · intro w hSw; (try dsimp only at hSw); go_simp; (try with_reducible rfl)
      try simp only [Act.put, List.setIfInBounds_toArray, List.set_cons_zero, List.set_cons_succ]
      refine hTake 7 (v := (.int .u64 (v : Int))) rfl (by kernel_rfl) (by kernel_rfl) (by kernel_rfl) (fun _ _ _ h => h) (by rfl) ?_ hHeld ?_
      · intro w hSw; have h1 := HC2.out w hSw; go_simp; (try with_reducible rfl)
      try simp only [Act.put, List.setIfInBounds_toArray, List.set_cons_zero, List.set_cons_succ]
      refine hTake 8 (v := ?_) rfl (by kernel_rfl) (by kernel_rfl) (by kernel_rfl) (fun _ _ _ h => h) (by rfl) ?_ hHeld ?_
      rotate_left
      · intro w hSw; (try dsimp only at hSw); go_simp; (try with_reducible rfl)
      try simp only [Act.put, List.setIfInBounds_toArray, List.set_cons_zero, List.set_cons_succ]
      refine hDone (by kernel_rfl) ?_
      show NoPanic _ _ _ _
      refine NoPanic.normal ?_
      go_wp2
      go_roundw
      case rel => exact ⟨k + 1, by omega, by go_num, hHeld⟩
      case measure => simp [intOf] <;> omega
    · obtain rfl : k = nx := by omega
      have tail : ∀ w3 : World, Below w.heap.size w w3 → Calls Try.prog 29 #[.slice a k cap] w3 fun e w' => ∃ ax c0, e = .returned (.slice ax (flatV ls).length c0) ∧ Hid (OwnB w3.heap.size w' (.slice ax (flatV ls).length c0) (flatV ls)) ∧ Below w3.heap.size w3 w' := fun w3 h3 => by
        refine (List_any a ls k cap _ HM.out (by omega) (HB.out.below h3)).mono ?_
        rintro e w4 ⟨y1, rfl, hoy, hb4⟩
        obtain ⟨ay, cy, ny, hvy, hny, -, -, -⟩ := hoy.bsn
        subst hvy hny
        exact ⟨ay, cy, rfl, hoy, hb4⟩
      have TAIL := Lib.hid tail
      clear tail
      obtain ⟨F, hF⟩ : ∃ F, F = (flatV ls).length := ⟨_, rfl⟩
      have HF := Lib.hid hF
      have hFs : F ≤ 400 := by rw [hF]; exact HFL.out
      rw [← hF] at TAIL
      clear hF
      have lastE : ∀ w3 : World, Below w.heap.size w w3 → Hid (Bs w3 a2 cap2 L) := fun w3 h3 => HB2.out.below h3
      have LAST := Lib.hid lastE
      clear lastE
      by_cases hne : n = (k : Int)
      · subst hne
        go_wp2_with fail
        refine (TAIL.out _ hbwr).mono ?_
        rintro e w3 ⟨a3, c3, rfl, HO3, hb3⟩
        have hbw3 := hbwr.trans (hb3.mono hbwr.size)
        have HL3 := LAST.out w3 hbw3
        have hbase := hb3.size
        have HROOM : Hid ((flatV ls).length + m2 ≤ 140737488355328) := by show _ ≤ _; have := HFL.out; omega
        go_wp2_with (at_builtin; refine wpList_append_bs_at rfl (.tmp 74) (.tmp 75) rfl wr.heap.size (.slice a3 F c3) (flatV ls) rfl HO3.out a2 m2 cap2 L rfl HM2.out HL3.out HROOM.out hbase ?_; intro v4 w4 hown4 hg4 hnear4; obtain ⟨a4, c4, n4, hv4, hn4, hbs4, -, -⟩ := hown4.bsn; subst hv4; have HB4 := Lib.hid hbs4; have HN4 := Lib.hid hn4; have HG4 := Lib.hid hg4; clear hn4 hbs4 hg4 hown4 hnear4)
        have hbw4 : Below w.heap.size w w4 := hbwr.trans (((hb3.trans (HO3.out.belowOf HG4.out hbase))).mono hbwr.size)
        refine (Parse_any a4 (flatV ls ++ L) n4 c4 (k : Int) _ HN4.out (by have h7 := HROOM.out; have h8 := HN4.out; have h9 := HFL.out; rw [List.length_append, ← HM2.out] at h8; omega) HB4.out (by omega) (by omega)).mono ?_
        rintro e w5 ⟨⟨x5, rfl, hox5⟩, hb5⟩
        rw [HP3.out] at hox5 ⊢
        have hbw5 := hbw4.trans (hb5.mono hbw4.size)
        clear hb5
        by_cases hL : L = []
        · have hm0 : m2 = 0 := by rw [HM2.out, hL]; rfl
          subst hm0
          rw [if_pos hL] at hox5 ⊢
          obtain ⟨a5, c5, n5, hv5, -, -, -, -⟩ := OwnN.bsn (l := ls) hox5 HB.out.small
          subst hv5
          clear hox5 hL
          go_wp2_with (go_at_call 25; refine (awake2 _).mono ?_; rintro e w6 ⟨rfl, hb6⟩)
          go_ret
          exact ⟨rfl, hbw5.trans (hb6.mono hbw5.size)⟩
        · have hm0 : ((m2 : Int) == 0) = false := by
            rw [beq_eq_false_iff_ne]
            have h7 := List.length_pos_iff.2 hL
            have h8 := HM2.out
            omega
          rw [if_neg hL] at hox5 ⊢
          obtain ⟨a5, c5, n5, hv5, -, -, -, -⟩ := OwnN.bsn (l := []) hox5 (by simp)
          subst hv5
          clear hox5 hL
          go_wp2_with (go_at_call 25; refine (awake2 _).mono ?_; rintro e w6 ⟨rfl, hb6⟩)
          go_ret
          exact ⟨rfl, hbw5.trans (hb6.mono hbw5.size)⟩
      · have hne2 : (n != (k : Int)) = true := by rw [bne_iff_ne]; exact hne
        have HP2' := Lib.hid (HP2.out hne)
        clear hne
        go_wp2_with fail
        refine (TAIL.out _ hbwr).mono ?_
        rintro e w6 ⟨a6, c6, rfl, HO6, hb6⟩
        have hbw6 := hbwr.trans (hb6.mono hbwr.size)
        obtain ⟨_, _, _, hv6, hn6, hbs6, -, -⟩ := HO6.out.bsn
        cases hv6
        have HBS6 := Lib.hid hbs6
        clear hn6 hbs6
        go_wp2_with fail
        refine (Parse_any a6 (flatV ls) F c6 n _ HF.out (by omega) HBS6.out (by omega) (by omega)).mono ?_
        rintro e w7 ⟨⟨x7, rfl, hox7⟩, hb7⟩
        rw [HP2'.out] at hox7 ⊢
        obtain ⟨a7, c7, n7, hv7, hn7, -, -, -⟩ := OwnN.bsn (l := []) hox7 (by simp)
        subst hv7
        have hn70 : n7 = 0 := hn7
        subst hn70
        have hbw7 := hbw6.trans (hb7.mono hbw6.size)
        clear hox7 hn7 hb7 HBS6 HO6 hb6
        go_wp2_with fail
        refine (TAIL.out _ hbw7).mono ?_
        rintro e w3 ⟨a3, c3, rfl, HO3, hb3⟩
        have hbw3 := hbw7.trans (hb3.mono hbw7.size)
        have HL3 := LAST.out w3 hbw3
        have hbase := hb3.size
        have HROOM : Hid ((flatV ls).length + m2 ≤ 140737488355328) := by show _ ≤ _; have := HFL.out; omega
        go_wp2_with (at_builtin; refine wpList_append_bs_at rfl (.tmp 74) (.tmp 75) rfl w7.heap.size (.slice a3 F c3) (flatV ls) rfl HO3.out a2 m2 cap2 L rfl HM2.out HL3.out HROOM.out hbase ?_; intro v4 w4 hown4 hg4 hnear4; obtain ⟨a4, c4, n4, hv4, hn4, hbs4, -, -⟩ := hown4.bsn; subst hv4; have HB4 := Lib.hid hbs4; have HN4 := Lib.hid hn4; have HG4 := Lib.hid hg4; clear hn4 hbs4 hg4 hown4 hnear4)
        have hbw4 : Below w.heap.size w w4 := hbw7.trans (((hb3.trans (HO3.out.belowOf HG4.out hbase))).mono hbw7.size)
        refine (Parse_any a4 (flatV ls ++ L) n4 c4 (k : Int) _ HN4.out (by have h7 := HROOM.out; have h8 := HN4.out; have h9 := HFL.out; rw [List.length_append, ← HM2.out] at h8; omega) HB4.out (by omega) (by omega)).mono ?_
        rintro e w5 ⟨⟨x5, rfl, hox5⟩, hb5⟩
        rw [HP3.out] at hox5 ⊢
        have hbw5 := hbw4.trans (hb5.mono hbw4.size)
        clear hb5
        by_cases hL : L = []
        · have hm0 : m2 = 0 := by rw [HM2.out, hL]; rfl
          subst hm0
          rw [if_pos hL] at hox5 ⊢
          obtain ⟨a5, c5, n5, hv5, -, -, -, -⟩ := OwnN.bsn (l := ls) hox5 HB.out.small
          subst hv5
          clear hox5 hL
          go_wp2_with (go_at_call 25; refine (awake2 _).mono ?_; rintro e w6 ⟨rfl, hb6⟩)
          go_ret
          exact ⟨rfl, hbw5.trans (hb6.mono hbw5.size)⟩
        · have hm0 : ((m2 : Int) == 0) = false := by
            rw [beq_eq_false_iff_ne]
            have h7 := List.length_pos_iff.2 hL
            have h8 := HM2.out
            omega
          rw [if_neg hL] at hox5 ⊢
          obtain ⟨a5, c5, n5, hv5, -, -, -, -⟩ := OwnN.bsn (l := []) hox5 (by simp)
          subst hv5
          clear hox5 hL
          go_wp2_with (go_at_call 25; refine (awake2 _).mono ?_; rintro e w6 ⟨rfl, hb6⟩)
          go_ret
          exact ⟨rfl, hbw5.trans (hb6.mono hbw5.size)⟩
end Go.Proofs.Ythicaomghefedaa
