/- The walk of the law OctetBack: it returns true, and leaves what was there as it was. -/
import Derived.Test.YthicaomghefedaaOctetMath
import Derived.Test.YthicaomghefedaaLaw1Awake
namespace Go.Proofs.Ythicaomghefedaa
open Go.RowKit

set_option maxRecDepth 100000 in
set_option maxHeartbeats 4000000 in
theorem OctetBack_walk (a0 : Option Addr) (l0 : List UInt8) (n0 c0 : Nat) (n : Int) (v : Nat) (a3 : Option Addr) (l3 : List UInt8) (n3 c3 : Nat) (w : World) (hn0 : n0 = l0.length) (hb0 : Bs w a0 c0 l0)
    (hn : -9223372036854775808 ≤ n ∧ n ≤ 9223372036854775807) (hv : v < 18446744073709551616) (hn3 : n3 = l3.length) (hb3 : Bs w a3 c3 l3) :
    Calls Try.prog 5 #[.slice a0 n0 c0, .int .i64 n, .int .u64 v, .slice a3 n3 c3] w fun e w' => e = .returned (.bool true) ∧ Below w.heap.size w w' := by
  have hf0 := hb0.fits hn0
  have hf3 := hb3.fits hn3
  obtain ⟨hna, hnb⟩ := hn
  have HN0 := Lib.hid hn0
  have HN3 := Lib.hid hn3
  have HB0 := Lib.hid hb0
  have HB3 := Lib.hid hb3
  clear hn0 hn3 hb0 hb3
  by_cases h1 : 400 < n0
  · go_enter Try.func5, Try.ntmps5
    go_wp2_with (go_at_call 11; refine (awake1 _).mono ?_; rintro e w1 ⟨rfl, hb1⟩)
    go_ret
    exact ⟨rfl, hb1⟩
  by_cases h2 : 400 < n3
  · go_enter Try.func5, Try.ntmps5
    go_wp2_with (go_at_call 11; refine (awake1 _).mono ?_; rintro e w1 ⟨rfl, hb1⟩)
    go_ret
    exact ⟨rfl, hb1⟩
  go_enter Try.func5, Try.ntmps5
  go_wp2_with fail
  refine (octetWrite_any _).mono ?_
  rintro e w1 ⟨p, rfl, hW1, hb1⟩
  have HW1 := Lib.hid hW1
  have hp1 : w.heap.size ≤ p := hW1.ge
  have hp2 : p < w1.heap.size := hW1.lt
  clear hW1
  go_wp2_with fail
  have hWA : Wr w.heap.size (w1.alloc (.cells #[.slice a0 n0 c0, .slice a3 n3 c3] 22)) p (.slice none 0 0) [] := HW1.out.below ((Below.refl _ _).alloc (Nat.le_refl _) _)
  have hbA : Below w.heap.size w (w1.alloc (.cells #[.slice a0 n0 c0, .slice a3 n3 c3] 22)) := hb1.alloc hb1.size _
  refine (WRaw_any _ p _ [] _ 2 2 [l0, l3] _ hWA rfl ?_ ?_).mono ?_
  · intro w' hk
    have hbel : Below w.heap.size w w' := hbA.trans (hk.below hbA.size hWA.foot)
    refine Bss.two l0 l3 HN0.out HN3.out (g := w1.heap.size) (e := 22) (fr := (0, 0)) ?_ (HB0.out.below hbel) (HB3.out.below hbel)
    rw [hk.block _ (by simp) (by rintro (h | h); omega; cases h)]
    exact heap_alloc_new w1 _
  · have h3 := HN0.out; have h4 := HN3.out; simp; omega
  rintro e w2 ⟨rfl, x2, hW2, hK2, hN2⟩
  rw [show ([] ++ [l0, l3].flatten : List UInt8) = l0 ++ l3 by simp] at hW2
  have HW2 := Lib.hid hW2
  have hbw2 := hbA.trans (hK2.below hbA.size hWA.foot)
  clear hW2 hK2 hN2 hWA hbA hb1
  go_wp2_with fail
  refine (WNum_any _ p _ (l0 ++ l3) n v _ HW2.out (by have h3 := HN0.out; have h4 := HN3.out; simp; omega) hna hnb hv).mono ?_
  rintro e w3 ⟨rfl, x3, hW3, hK3, hN3⟩
  obtain ⟨ok, hok⟩ : ∃ ok, ok = fitsN n v := ⟨_, rfl⟩
  rw [← hok] at hW3 ⊢
  have HOK := Lib.hid hok
  have HW3 := Lib.hid hW3
  have hbw3 := hbw2.trans (hK3.below hbw2.size HW2.out.foot)
  obtain ⟨L, hL⟩ : ∃ L, L = (if ok then l0 ++ l3 ++ beN v n.toNat else l0 ++ l3) := ⟨_, rfl⟩
  have HL := Lib.hid hL
  have HLL : Hid (L.length ≤ 1000) := by
    show _ ≤ _
    have h3 := HN0.out; have h4 := HN3.out
    rw [hL]; split
    · rename_i h5
      have h6 : n ≤ 8 := by
        rw [h5] at hok
        exact (of_decide_eq_true hok.symm).2.1
      simp [beN_length]; omega
    · simp; omega
  rw [← hL] at HW3
  clear hok hW3 hK3 hN3 hbw2 hL
  go_wp2_with fail
  refine (WBytes_any _ p x3 L _ HW3.out (by have h5 := HLL.out; omega)).mono ?_
  rintro e w4 ⟨v4, rfl, hown4, hb4⟩
  obtain ⟨a4, c4, n4, hv4, hn4, hbs4, -, -⟩ := hown4.bsn
  rw [hv4]
  have hbw4 := hbw3.trans (hb4.mono hbw3.size)
  have HB4 := Lib.hid hbs4
  have HN4 := Lib.hid hn4
  clear hv4 hn4 hbs4 hown4 hb4 hbw3
  go_wp2_with fail
  refine (octetRead_any a4 L n4 c4 _ HN4.out (by have h5 := HLL.out; have h6 := HN4.out; omega) HB4.out).mono ?_
  rintro e w5 ⟨q, g, rfl, hR5, hq, hg, hb5⟩
  have hbw5 := hbw4.trans (hb5.mono hbw4.size)
  have hqw : w.heap.size ≤ q := Nat.le_trans hbw4.size hq
  have HR5 := Lib.hid hR5
  clear hR5 hb5 hq hg
  obtain ⟨post, hpost⟩ : ∃ post, post = (if ok then beN v n.toNat else []) := ⟨_, rfl⟩
  have HPO := Lib.hid hpost
  have HLP : Hid (L = l0 ++ l3 ++ post) := by show _ = _; rw [HL.out, hpost]; split <;> simp
  clear hpost
  have HF1 : Hid (takenN L 0 false (n0 : Int) = l0 ∧ nextN L 0 false (n0 : Int) = n0 ∧ hasN L 0 false (n0 : Int) = true) := by
    have e1 := takenN_mid [] l0 (l3 ++ post)
    have e2 := nextN_mid [] l0 (l3 ++ post)
    have e3 := hasN_mid [] l0 (l3 ++ post)
    rw [List.nil_append, ← List.append_assoc, ← HLP.out, ← HN0.out] at e1 e2 e3
    exact ⟨e1, by simpa using e2, e3⟩
  have HF2 : Hid (takenN L n0 false (n3 : Int) = l3 ∧ nextN L n0 false (n3 : Int) = n0 + n3 ∧ hasN L n0 false (n3 : Int) = true) := by
    have e1 := takenN_mid l0 l3 post
    have e2 := nextN_mid l0 l3 post
    have e3 := hasN_mid l0 l3 post
    rw [← HLP.out, ← HN0.out, ← HN3.out] at e1 e2 e3
    exact ⟨e1, e2, e3⟩
  have HSa : Hid (∀ w', Below w.heap.size w w' → (convert 22 9 (.slice a0 n0 c0)).run Try.prog w' = .ok (.string (strB l0)) w') := fun w' h => run_str HN0.out (HB0.out.below h)
  have HSb : Hid (∀ w', Below w.heap.size w w' → (convert 22 9 (.slice a3 n3 c3)).run Try.prog w' = .ok (.string (strB l3)) w') := fun w' h => run_str HN3.out (HB3.out.below h)
  obtain ⟨Sa, hSa⟩ : ∃ S, S = strB l0 := ⟨_, rfl⟩
  obtain ⟨Sb, hSb⟩ : ∃ S, S = strB l3 := ⟨_, rfl⟩
  rw [← hSa] at HSa
  rw [← hSb] at HSb
  have HSA := Lib.hid hSa
  have HSB := Lib.hid hSb
  clear hSa hSb
  go_wp2_with fail
  have HR5d := Lib.hid (HR5.out.below (Below.refl w5.heap.size w5).drew)
  refine hStart (fun w' => Below w.heap.size w w') (by kernel_rfl) ?_
  have hHeld := hbw5.drew
  refine hTake 0 (v := ?_) rfl (by kernel_rfl) (by kernel_rfl) (by kernel_rfl) (fun _ _ _ h => h) (by rfl) ?_ hHeld ?_
  rotate_left
  · intro w hSw; (try dsimp only at hSw); go_simp; (try with_reducible rfl)
  try simp only [Act.put, List.setIfInBounds_toArray, List.set_cons_zero, List.set_cons_succ]
  refine hTake 1 (v := ?_) rfl (by kernel_rfl) (by kernel_rfl) (by kernel_rfl) (fun _ _ _ h => h) (by rfl) ?_ hHeld ?_
  rotate_left
  · intro w hSw; (try dsimp only at hSw); go_simp; (try with_reducible rfl)
  try simp only [Act.put, List.setIfInBounds_toArray, List.set_cons_zero, List.set_cons_succ]
  refine hTake 2 (v := ?_) rfl (by kernel_rfl) (by kernel_rfl) (by kernel_rfl) (fun _ _ _ h => h) (by rfl) ?_ hHeld ?_
  rotate_left
  · intro w hSw; (try dsimp only at hSw); go_simp; (try with_reducible rfl)
  try simp only [Act.put, List.setIfInBounds_toArray, List.set_cons_zero, List.set_cons_succ]
  refine hTake 5 (v := ?_) rfl (by kernel_rfl) (by kernel_rfl) (by kernel_rfl) (fun _ _ _ h => h) (by rfl) ?_ hHeld ?_
  rotate_left
  · intro w hSw; (try dsimp only at hSw); go_simp; (try with_reducible rfl)
  try simp only [Act.put, List.setIfInBounds_toArray, List.set_cons_zero, List.set_cons_succ]
  refine hTake 6 (v := (.string Sa)) rfl (by kernel_rfl) (by kernel_rfl) (by kernel_rfl) (fun _ _ _ h => h) (by rfl) ?_ hHeld ?_
  · intro w hSw; have h1 := HSa.out w hSw; go_simp; (try with_reducible rfl)
  try simp only [Act.put, List.setIfInBounds_toArray, List.set_cons_zero, List.set_cons_succ]
  refine hStep 3 rfl (by kernel_rfl) (by rfl) (fun K hK => ?_)
  have HK := Lib.hid hK
  clear hK
  go_simp
  refine (RTake_any (n0 : Int) _ HR5d.out (by omega) (by omega)).mono ?_
  rintro e w6 ⟨v6, rfl, hown6, hR6, hK6⟩
  rw [HF1.out.1] at hown6
  rw [HF1.out.2.1, HF1.out.2.2] at hR6
  have HR6 : Hid (Rd w6 q g L n0 false) := hR6
  obtain ⟨a6, c6, n6, hv6, hn6, hbs6, -, hblk6⟩ := hown6.bsn
  rw [hv6]
  have hq5 : q < w5.heap.size := HR5.out.lt
  have hbw6 : Below w.heap.size w w6 := hHeld.trans (hK6.below hHeld.size (by rintro i rfl; exact hqw))
  have hHeldN := hbw6
  refine HK.out _ _ hHeldN ?_
  clear HK K hHeld
  have hHeld := hHeldN
  clear hHeldN
  try simp only [Act.put, List.setIfInBounds_toArray, List.set_cons_zero, List.set_cons_succ]
  have HS6 : Hid (∀ w', Kept (· = q) w6 w' → (convert 22 9 (.slice a6 n6 c6)).run Try.prog w' = .ok (.string Sa) w') := fun w' hw' => by
    rw [HSA.out]; exact run_str hn6 (hbs6.kept hw' (fun x hx e => by have h8 := (hblk6 x hx).1; have h9 : w5.drew.heap.size = w5.heap.size := rfl; omega))
  clear hv6 hown6 hn6 hbs6 hblk6 hR6
  refine hSwitch (S2 := fun w' => Kept (· = q) w6 w') (fun w' hw' => hbw6.trans (hw'.below hbw6.size (by rintro i rfl; exact hqw))) _ _ _ _ ?_
  clear hHeld
  have hHeld := Kept.refl (· = q) w6
  have HSb6 := Lib.hid (fun w' (hw' : Kept (· = q) w6 w') => HSb.out w' (hbw6.trans (hw'.below hbw6.size (by rintro i rfl; exact hqw))))
  refine hTake 4 (v := (.string Sa)) rfl (by kernel_rfl) (by kernel_rfl) (by kernel_rfl) (fun _ _ _ h => h) (by rfl) ?_ hHeld ?_
  · intro w hSw; have h1 := HS6.out w hSw; go_simp; (try with_reducible rfl)
  try simp only [Act.put, List.setIfInBounds_toArray, List.set_cons_zero, List.set_cons_succ]
  refine hTake 7 (v := ?_) rfl (by kernel_rfl) (by kernel_rfl) (by kernel_rfl) (fun _ _ _ h => h) (by rfl) ?_ hHeld ?_
  rotate_left
  · intro w hSw; (try dsimp only at hSw); go_simp; (try with_reducible rfl)
  try simp only [Act.put, List.setIfInBounds_toArray, List.set_cons_zero, List.set_cons_succ]
  refine hTake 8 (v := ?_) rfl (by kernel_rfl) (by kernel_rfl) (by kernel_rfl) (fun _ _ _ h => h) (by rfl) ?_ hHeld ?_
  rotate_left
  · intro w hSw; (try dsimp only at hSw); go_simp; (try with_reducible rfl)
  try simp only [Act.put, List.setIfInBounds_toArray, List.set_cons_zero, List.set_cons_succ]
  refine hTake 9 (v := ?_) rfl (by kernel_rfl) (by kernel_rfl) (by kernel_rfl) (fun _ _ _ h => h) (by rfl) ?_ hHeld ?_
  rotate_left
  · intro w hSw; (try dsimp only at hSw); go_simp; (try with_reducible rfl)
  try simp only [Act.put, List.setIfInBounds_toArray, List.set_cons_zero, List.set_cons_succ]
  refine hTake 10 (v := ?_) rfl (by kernel_rfl) (by kernel_rfl) (by kernel_rfl) (fun _ _ _ h => h) (by rfl) ?_ hHeld ?_
  rotate_left
  · intro w hSw; (try dsimp only at hSw); go_simp; (try with_reducible rfl)
  try simp only [Act.put, List.setIfInBounds_toArray, List.set_cons_zero, List.set_cons_succ]
  refine hTake 11 (v := ?_) rfl (by kernel_rfl) (by kernel_rfl) (by kernel_rfl) (fun _ _ _ h => h) (by rfl) ?_ hHeld ?_
  rotate_left
  · intro w hSw; (try dsimp only at hSw); go_simp; (try with_reducible rfl)
  try simp only [Act.put, List.setIfInBounds_toArray, List.set_cons_zero, List.set_cons_succ]
  refine hTake 14 (v := ?_) rfl (by kernel_rfl) (by kernel_rfl) (by kernel_rfl) (fun _ _ _ h => h) (by rfl) ?_ hHeld ?_
  rotate_left
  · intro w hSw; (try dsimp only at hSw); go_simp; (try with_reducible rfl)
  try simp only [Act.put, List.setIfInBounds_toArray, List.set_cons_zero, List.set_cons_succ]
  refine hTake 15 (v := (.string Sb)) rfl (by kernel_rfl) (by kernel_rfl) (by kernel_rfl) (fun _ _ _ h => h) (by rfl) ?_ hHeld ?_
  · intro w hSw; have h1 := HSb6.out w hSw; go_simp; (try with_reducible rfl)
  try simp only [Act.put, List.setIfInBounds_toArray, List.set_cons_zero, List.set_cons_succ]
  refine hStep 12 rfl (by kernel_rfl) (by rfl) (fun K hK => ?_)
  have HK := Lib.hid hK
  clear hK
  go_simp
  refine (RTake_any (n3 : Int) _ HR6.out (by omega) (by omega)).mono ?_
  rintro e w7 ⟨v7, rfl, hown7, hR7, hK7⟩
  rw [HF2.out.1] at hown7
  rw [HF2.out.2.1, HF2.out.2.2] at hR7
  have HR7 : Hid (Rd w7 q g L (n0 + n3) false) := hR7
  obtain ⟨a7, c7, n7, hv7, hn7, hbs7, -, hblk7⟩ := hown7.bsn
  rw [hv7]
  have hq6 : q < w6.heap.size := HR6.out.lt
  have hHeldN := hK7
  refine HK.out _ _ hHeldN ?_
  clear HK K hHeld
  have hHeld := hHeldN
  clear hHeldN
  try simp only [Act.put, List.setIfInBounds_toArray, List.set_cons_zero, List.set_cons_succ]
  have HS7 : Hid (∀ w', Kept (· = q) w7 w' → (convert 22 9 (.slice a7 n7 c7)).run Try.prog w' = .ok (.string Sb) w') := fun w' hw' => by
    rw [HSB.out]; exact run_str hn7 (hbs7.kept hw' (fun x hx e => by have h8 := (hblk7 x hx).1; omega))
  have hbw7 : Below w.heap.size w w7 := hbw6.trans (hK7.below hbw6.size (by rintro i rfl; exact hqw))
  refine hSwitch (S2 := fun w' => Kept (· = q) w7 w') (fun w' hw' => hK7.trans hw' (fun i hi => .inl hi)) _ _ _ _ ?_
  clear hHeld hv7 hown7 hn7 hbs7 hblk7 hR7 hK7 hK6
  have hHeld := Kept.refl (· = q) w7
  refine hTake 13 (v := (.string Sb)) rfl (by kernel_rfl) (by kernel_rfl) (by kernel_rfl) (fun _ _ _ h => h) (by rfl) ?_ hHeld ?_
  · intro w hSw; have h1 := HS7.out w hSw; go_simp; (try with_reducible rfl)
  try simp only [Act.put, List.setIfInBounds_toArray, List.set_cons_zero, List.set_cons_succ]
  refine hTake 16 (v := ?_) rfl (by kernel_rfl) (by kernel_rfl) (by kernel_rfl) (fun _ _ _ h => h) (by rfl) ?_ hHeld ?_
  rotate_left
  · intro w hSw; (try dsimp only at hSw); go_simp; (try with_reducible rfl)
  try simp only [Act.put, List.setIfInBounds_toArray, List.set_cons_zero, List.set_cons_succ]
  refine hTake 17 (v := ?_) rfl (by kernel_rfl) (by kernel_rfl) (by kernel_rfl) (fun _ _ _ h => h) (by rfl) ?_ hHeld ?_
  rotate_left
  · intro w hSw; (try dsimp only at hSw); go_simp; (try with_reducible rfl)
  try simp only [Act.put, List.setIfInBounds_toArray, List.set_cons_zero, List.set_cons_succ]
  refine hDone (by kernel_rfl) ?_
  show NoPanic _ _ _ _
  refine NoPanic.normal ?_
  clear hHeld HS7 HS6 HSb6 HSa HSb
  cases ok
  · have HLE : Hid (leftN L (n0 + n3) false = 0) := by
      show _ = _
      have h3 := HN0.out; have h4 := HN3.out
      unfold leftN; rw [HLP.out, HPO.out]; simp; omega
    go_wp2_with fail
    refine (RAll_any _ HR7.out).mono ?_
    rintro e w8 ⟨rfl, hb8⟩
    rw [HLE.out]
    have hbw8 := hbw7.trans (hb8.mono hbw7.size)
    go_wp2_with (go_at_call 11; refine (awake1 _).mono ?_; rintro e w9 ⟨rfl, hb9⟩)
    go_ret
    exact ⟨rfl, hbw8.trans (hb9.mono hbw8.size)⟩
  · obtain ⟨hf1, hf2, hf3⟩ := of_decide_eq_true HOK.out.symm
    have HASK : Hid (askN n = n) := if_neg (by omega)
    have HLB : Hid (L = (l0 ++ l3) ++ beN v n.toNat ++ []) := by show _ = _; rw [HLP.out, HPO.out]; simp
    have HF3 : Hid (takenN L (n0 + n3) false n = beN v n.toNat ∧ nextN L (n0 + n3) false n = n0 + n3 + n.toNat ∧ hasN L (n0 + n3) false n = true) := by
      have e1 := takenN_mid (l0 ++ l3) (beN v n.toNat) []
      have e2 := nextN_mid (l0 ++ l3) (beN v n.toNat) []
      have e3 := hasN_mid (l0 ++ l3) (beN v n.toNat) []
      rw [← HLB.out, List.length_append, ← HN0.out, ← HN3.out, beN_length, show ((n.toNat : Nat) : Int) = n by omega] at e1 e2 e3
      exact ⟨e1, e2, e3⟩
    have HBV : Hid (beV (beN v n.toNat) = v) := beV_beN _ _ hf3
    have HLE : Hid (leftN L (n0 + n3 + n.toNat) false = 0) := by
      show _ = _
      have h3 := HN0.out; have h4 := HN3.out
      unfold leftN; rw [HLB.out]; simp [beN_length]; omega
    clear hf3
    go_wp2_with fail
    refine (RNum_any n _ HR7.out (by omega) (by omega)).mono ?_
    rintro e w8 ⟨rfl, hR8, hK8⟩
    rw [HASK.out] at hR8 ⊢
    rw [HF3.out.1, HBV.out]
    rw [HF3.out.2.1, HF3.out.2.2] at hR8
    have HR8 : Hid (Rd w8 q g L (n0 + n3 + n.toNat) false) := hR8
    have hbw8 : Below w.heap.size w w8 := hbw7.trans (hK8.below hbw7.size (by rintro i rfl; exact hqw))
    clear hR8 hK8
    go_wp2_with fail
    refine (RAll_any _ HR8.out).mono ?_
    rintro e w9 ⟨rfl, hb9⟩
    rw [HLE.out]
    have hbw9 := hbw8.trans (hb9.mono hbw8.size)
    go_wp2_with (go_at_call 11; refine (awake1 _).mono ?_; rintro e w10 ⟨rfl, hb10⟩)
    go_ret
    exact ⟨rfl, hbw9.trans (hb10.mono hbw9.size)⟩
end Go.Proofs.Ythicaomghefedaa
