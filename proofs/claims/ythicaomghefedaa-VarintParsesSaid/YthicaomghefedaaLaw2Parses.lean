/- The walks of the laws VarintParses and VarintRises: they return true, and leave what was there as it was. -/
import Derived.Test.YthicaomghefedaaLaw2Awake
namespace Go.Proofs.Ythicaomghefedaa
open Go.RowKit

set_option maxRecDepth 100000 in
set_option maxHeartbeats 4000000 in
theorem VarintParses_walk (a : Option Addr) (L : List UInt8) (m cap : Nat) (n : Int) (w : World) (hm : m = L.length) (hb : Bs w a cap L) (hn : -9223372036854775808 ≤ n ∧ n ≤ 9223372036854775807) :
    Calls Try.prog 8 #[.slice a m cap, .int .i64 n] w fun e w' => e = .returned (.bool true) ∧ Below w.heap.size w w' := by
  have hf := hb.fits hm
  have HM := Lib.hid hm
  have HB := Lib.hid hb
  obtain ⟨hn1, hn2⟩ := hn
  clear hm hb
  by_cases h1 : 100 < m
  · go_enter Try.func8, Try.ntmps8
    go_wp2_with (go_at_call 25; refine (awake2 _).mono ?_; rintro e w1 ⟨rfl, hb1⟩)
    go_ret
    exact ⟨rfl, hb1⟩
  go_enter Try.func8, Try.ntmps8
  go_wp2_with fail
  refine (Parse_any a L m cap n _ HM.out (by omega) HB.out hn1 hn2).mono ?_
  rintro e w1 ⟨⟨x, rfl, hox⟩, hb1⟩
  cases hP : parseR n L with
  | none =>
    rw [hP] at hox
    obtain ⟨ax, cx, nx, hvx, hnx, hbx, -, -⟩ := OwnN.bsn (l := []) hox (by simp)
    subst hvx
    have hnx2 : nx = 0 := hnx
    subst hnx2
    have hno : n ≠ 0 ∨ 0 < m := by
      by_cases h0 : n = 0
      · right
        subst h0
        apply Nat.pos_of_ne_zero
        intro h
        have hl : L = [] := List.eq_nil_of_length_eq_zero (by have := HM.out; omega)
        subst hl
        exact absurd hP (by decide)
      · exact .inl h0
    clear hox hnx hbx hP
    rcases hno with hno | hno
    · have hne : (n != 0) = true := by simpa using hno
      go_wp2_with (go_at_call 25; refine (awake2 _).mono ?_; rintro e w2 ⟨rfl, hb2⟩)
      go_ret
      exact ⟨rfl, hb1.trans (hb2.mono hb1.size)⟩
    · by_cases h0 : n = 0
      · subst h0
        go_wp2_with (go_at_call 25; refine (awake2 _).mono ?_; rintro e w2 ⟨rfl, hb2⟩)
        go_ret
        exact ⟨rfl, hb1.trans (hb2.mono hb1.size)⟩
      · have hne : (n != 0) = true := by simpa using h0
        go_wp2_with (go_at_call 25; refine (awake2 _).mono ?_; rintro e w2 ⟨rfl, hb2⟩)
        go_ret
        exact ⟨rfl, hb1.trans (hb2.mono hb1.size)⟩
  | some vs =>
    rw [hP] at hox
    have hn0 : ¬ n < 0 := fun h => by
      unfold parseR at hP
      rw [if_pos h] at hP; cases hP
    obtain ⟨hs1, hs2, hs3⟩ := parseV_sound n.toNat L vs (by unfold parseR at hP; rw [if_neg hn0] at hP; exact hP)
    obtain ⟨ax, cx, nx, hvx, hnx, hbx, -, -⟩ := OwnN.bsn (l := vs) hox hs3
    subst hvx
    have hlen := (flatV_len hs3).1
    rw [hs2] at hlen
    obtain ⟨N, rfl⟩ : ∃ N : Nat, n = N := ⟨n.toNat, by omega⟩
    have hNx : nx = N := by rw [hnx, hs1]; omega
    subst hNx
    have hsmall : nx ≤ 100 := by have := HM.out; omega
    have HNX := Lib.hid hnx
    have HBX := Lib.hid hbx
    have HS2 := Lib.hid hs2
    have hbase := hb1.size
    obtain ⟨S, hS⟩ : ∃ S, S = strB L := ⟨_, rfl⟩
    have HS := Lib.hid hS
    have HSB : Hid (∀ w', Below w.heap.size w w' → (convert 22 9 (.slice a m cap)).run Try.prog w' = .ok (.string S) w') := fun w' h => by
      rw [HS.out]; exact run_str HM.out (HB.out.below h)
    clear hox hnx hbx hP hs1 hs2 hs3 hlen hS hn0
    go_wp2_with fail
    refine hStart (fun w' => Below w.heap.size w w') (by kernel_rfl) ?_
    have hHeld := hb1.drew
    refine hTake 0 (v := ?_) rfl (by kernel_rfl) (by kernel_rfl) (by kernel_rfl) (fun _ _ _ h => h) (by rfl) ?_ hHeld ?_
    rotate_left
    · intro w hSw; (try dsimp only at hSw); go_simp; (try with_reducible rfl)
    try simp only [Act.put, List.setIfInBounds_toArray, List.set_cons_zero, List.set_cons_succ]
    refine hTake 1 (v := ?_) rfl (by kernel_rfl) (by kernel_rfl) (by kernel_rfl) (fun _ _ _ h => h) (by rfl) ?_ hHeld ?_
    rotate_left
    · intro w hSw; (try dsimp only at hSw); go_simp; (try with_reducible rfl)
    try simp only [Act.put, List.setIfInBounds_toArray, List.set_cons_zero, List.set_cons_succ]
    refine hTake 2 (v := ?_) rfl (by kernel_rfl) (by kernel_rfl) (by kernel_rfl) (fun _ _ _ h => h) (by rfl) ?_ hHeld ?_
    rotate_left
    · intro w hSw; (try dsimp only at hSw); go_simp; (try with_reducible rfl)
    try simp only [Act.put, List.setIfInBounds_toArray, List.set_cons_zero, List.set_cons_succ]
    refine hTake 3 (v := ?_) rfl (by kernel_rfl) (by kernel_rfl) (by kernel_rfl) (fun _ _ _ h => h) (by rfl) ?_ hHeld ?_
    rotate_left
    · intro w hSw; (try dsimp only at hSw); go_simp; (try with_reducible rfl)
    try simp only [Act.put, List.setIfInBounds_toArray, List.set_cons_zero, List.set_cons_succ]
    refine hTake 4 (v := ?_) rfl (by kernel_rfl) (by kernel_rfl) (by kernel_rfl) (fun _ _ _ h => h) (by rfl) ?_ hHeld ?_
    rotate_left
    · intro w hSw; (try dsimp only at hSw); go_simp; (try with_reducible rfl)
    try simp only [Act.put, List.setIfInBounds_toArray, List.set_cons_zero, List.set_cons_succ]
    refine hTake 5 (v := ?_) rfl (by kernel_rfl) (by kernel_rfl) (by kernel_rfl) (fun _ _ _ h => h) (by rfl) ?_ hHeld ?_
    rotate_left
    · intro w hSw; (try dsimp only at hSw); go_simp; (try with_reducible rfl)
    try simp only [Act.put, List.setIfInBounds_toArray, List.set_cons_zero, List.set_cons_succ]
    refine hTake 8 (v := ?_) rfl (by kernel_rfl) (by kernel_rfl) (by kernel_rfl) (fun _ _ _ h => h) (by rfl) ?_ hHeld ?_
    rotate_left
    · intro w hSw; (try dsimp only at hSw); go_simp; (try with_reducible rfl)
    try simp only [Act.put, List.setIfInBounds_toArray, List.set_cons_zero, List.set_cons_succ]
    refine hTake 9 (v := (.string S)) rfl (by kernel_rfl) (by kernel_rfl) (by kernel_rfl) (fun _ _ _ h => h) (by rfl) ?_ hHeld ?_
    · intro w hSw; have h1 := HSB.out w hSw; go_simp; (try with_reducible rfl)
    try simp only [Act.put, List.setIfInBounds_toArray, List.set_cons_zero, List.set_cons_succ]
    refine hStep 6 rfl (by kernel_rfl) (by rfl) (fun K hK => ?_)
    have HK := Lib.hid hK
    clear hK
    go_simp
    refine (List_any ax vs nx cx _ HNX.out (by omega) (HBX.out.below (Below.refl w1.heap.size w1).drew)).mono ?_
    rintro e w3 ⟨y, rfl, hoy, hb3⟩
    rw [HS2.out] at hoy
    obtain ⟨ay, cy, ny, hvy, hny, hby, -, -⟩ := hoy.bsn
    rw [hvy]
    have hbw3 : Below w.heap.size w w3 := hHeld.trans (hb3.mono hHeld.size)
    have HS3 : Hid (∀ w', Below w3.heap.size w3 w' → (convert 22 9 (.slice ay ny cy)).run Try.prog w' = .ok (.string S) w') := fun w' hw' => by
      rw [HS.out]; exact run_str hny (hby.below hw')
    clear hvy hny hby hoy hb3
    have hHeldN := hbw3
    refine HK.out _ _ hHeldN ?_
    clear HK K hHeld
    have hHeld := hHeldN
    clear hHeldN
    try simp only [Act.put, List.setIfInBounds_toArray, List.set_cons_zero, List.set_cons_succ]
    refine hSwitch (S2 := fun w' => Below w3.heap.size w3 w') (fun w' hw' => hbw3.trans (hw'.mono hbw3.size)) _ _ _ _ ?_
    clear hHeld
    have hHeld := Below.refl w3.heap.size w3
    refine hTake 7 (v := (.string S)) rfl (by kernel_rfl) (by kernel_rfl) (by kernel_rfl) (fun _ _ _ h => h) (by rfl) ?_ hHeld ?_
    · intro w hSw; have h1 := HS3.out w hSw; go_simp; (try with_reducible rfl)
    try simp only [Act.put, List.setIfInBounds_toArray, List.set_cons_zero, List.set_cons_succ]
    refine hTake 10 (v := ?_) rfl (by kernel_rfl) (by kernel_rfl) (by kernel_rfl) (fun _ _ _ h => h) (by rfl) ?_ hHeld ?_
    rotate_left
    · intro w hSw; (try dsimp only at hSw); go_simp; (try with_reducible rfl)
    try simp only [Act.put, List.setIfInBounds_toArray, List.set_cons_zero, List.set_cons_succ]
    refine hTake 11 (v := ?_) rfl (by kernel_rfl) (by kernel_rfl) (by kernel_rfl) (fun _ _ _ h => h) (by rfl) ?_ hHeld ?_
    rotate_left
    · intro w hSw; (try dsimp only at hSw); go_simp; (try with_reducible rfl)
    try simp only [Act.put, List.setIfInBounds_toArray, List.set_cons_zero, List.set_cons_succ]
    refine hTake 12 (v := ?_) rfl (by kernel_rfl) (by kernel_rfl) (by kernel_rfl) (fun _ _ _ h => h) (by rfl) ?_ hHeld ?_
    rotate_left
    · intro w hSw; (try dsimp only at hSw); go_simp; (try with_reducible rfl)
    try simp only [Act.put, List.setIfInBounds_toArray, List.set_cons_zero, List.set_cons_succ]
    refine hStep 13 rfl (by kernel_rfl) (by rfl) (fun K hK => ?_)
    have HK := Lib.hid hK
    clear hK
    go_simp
    refine (awake2 _).mono ?_
    rintro e w4 ⟨rfl, hb4⟩
    have hHeldN := hb4
    refine HK.out _ _ hHeldN ?_
    clear HK K hHeld
    have hHeld := hHeldN
    clear hHeldN
    try simp only [Act.put, List.setIfInBounds_toArray, List.set_cons_zero, List.set_cons_succ]
    refine hTake 14 (v := ?_) rfl (by kernel_rfl) (by kernel_rfl) (by kernel_rfl) (fun _ _ _ h => h) (by rfl) ?_ hHeld ?_
    rotate_left
    · intro w hSw; (try dsimp only at hSw); go_simp; (try with_reducible rfl)
    try simp only [Act.put, List.setIfInBounds_toArray, List.set_cons_zero, List.set_cons_succ]
    refine hTake 15 (v := ?_) rfl (by kernel_rfl) (by kernel_rfl) (by kernel_rfl) (fun _ _ _ h => h) (by rfl) ?_ hHeld ?_
    rotate_left
    · intro w hSw; (try dsimp only at hSw); go_simp; (try with_reducible rfl)
    try simp only [Act.put, List.setIfInBounds_toArray, List.set_cons_zero, List.set_cons_succ]
    refine hDone (by kernel_rfl) ?_
    show NoPanic _ _ _ _
    refine NoPanic.normal ?_
    go_wp2
    go_ret
    exact ⟨rfl, hbw3.trans (hb4.mono hbw3.size)⟩
end Go.Proofs.Ythicaomghefedaa
